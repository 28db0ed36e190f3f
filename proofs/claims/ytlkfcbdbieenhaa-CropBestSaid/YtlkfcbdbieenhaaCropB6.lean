/-
  Walks of chapter 7, the best cropping: the body of the loop over a place's blocks.
-/
import Derived.Test.YtlkfcbdbieenhaaCropB4
set_option linter.unusedSimpArgs false
set_option linter.unusedVariables false
namespace Go.Proofs.Ytlkfcbdbieenhaa
open Go.RowKit Go.Shelf

attribute [local go_sem] Oper.semAt_some

/-- The first range over a function in a piece of code: its assignment, its body. -/
def rfFind : Code → Option (Code × Code)
  | .rangeFunc _ _ a b => some (a, b)
  | .seq x y => (rfFind x).orElse fun _ => rfFind y
  | .cond _ x y => (rfFind x).orElse fun _ => rfFind y
  | .loop x => rfFind x
  | .block _ x => rfFind x
  | _ => none

/-- What a round leaves. -/
def bodyQ (gB gS : Nat) (W : World) (z : Rs × Bool) (e : Exit) (W' : World) : Prop :=
  e = .normal ∧ Stp gB gS W W' ∧ Bk W' gB 113 #[.int .i64 z.1.1, .int .i64 z.1.2.1, .int .i64 z.1.2.2.1, .int .i64 z.1.2.2.2] ∧ Bk W' gS 4 #[.bool z.2]

set_option maxRecDepth 100000 in
set_option maxHeartbeats 40000000 in
theorem rests_body (l : Nat) (w W : World) (g3 gB gS Bx n f : Nat) (s1 s2 s3 : Int) (A : Option Addr) (cap : Nat) (m : Nat → Rs) (b1 b2 b3 b4 : Int) (sm : Bool) (x1 x2 v : Int)
    (rs : RS w W g3 n s1 s2 s3 A cap m) (h1 : g3 < gB) (h2 : gB < gS) (h3 : gS < Bx) (kB : Bk W gB 113 #[.int .i64 b1, .int .i64 b2, .int .i64 b3, .int .i64 b4]) (kS : Bk W gS 4 #[.bool sm]) (kX : Bk W Bx 49 #[.int .i64 x1, .int .i64 x2])
    (hx : okY f n (x1, x2, v)) (hs3 : 0 ≤ s3 ∧ s3 ≤ 20) (hn : n ≤ 3000) (htb : ∀ i, i ≤ n → okR n i (m i)) (hb : okR n f (b1, b2, b3, b4))
    (u0 u2 u4 u9 u10 u11 u12 u13 u14 u15 u16 u17 u18 u19 u20 u21 u22 u23 u24 u25 u26 u27 u28 u29 u30 u31 u32 u33 u34 u35 u36 u37 u38 u39 u40 u41 u42 u43 u44 u45 u46 u47 u48 u49 u50 u51 u52 u53 u54 u55 u56 u57 u58 u59 u60 u61 u62 u63 u64 u65 u66 u67 u68 : Value) :
    ((rfFind (Try.f49.body.getD .skip)).getD (.skip, .skip)).2.wpIn (Fence.wide.inRound l) 1 Try.prog (fun e _ W' => bodyQ gB gS W (stepR m s3 n ((b1, b2, b3, b4), sm) (x1, x2, v)) e W')
      { tmps := #[u0, .pointer (some ⟨w.heap.size, 0, none⟩), u2, .pointer (some ⟨g3, 0, none⟩), u4, .pointer (some ⟨gB, 0, none⟩), .pointer (some ⟨gS, 0, none⟩), .pointer (some ⟨Bx, 0, none⟩), .int .i64 v, u9, u10, u11, u12, u13, u14, u15, u16, u17, u18, u19, u20, u21, u22, u23, u24, u25, u26, u27, u28, u29, u30, u31, u32, u33, u34, u35, u36, u37, u38, u39, u40, u41, u42, u43, u44, u45, u46, u47, u48, u49, u50, u51, u52, u53, u54, u55, u56, u57, u58, u59, u60, u61, u62, u63, u64, u65, u66, u67, u68], defers := [] } W := by
  conv => arg 4; whnf
  dsimp only
  have hx2 := hx
  obtain ⟨hx0, hx1, hxn, hv0, hv1⟩ := hx2
  simp only at hx0 hx1 hxn hv0 hv1
  subst hx0
  obtain ⟨q, hq⟩ : ∃ q : Nat, min (x2 + s3) n = (q : Int) := ⟨(min (x2 + s3) n).toNat, by omega⟩
  have hqn : q ≤ n := by omega
  obtain ⟨⟨r1, r2, r3, r4⟩, hr⟩ : ∃ r : Rs, m q = r := ⟨_, rfl⟩
  have hrk := htb q hqn
  rw [hr] at hrk
  have e0 := rs.row.cell (rowA_at m (n + 1) q (by omega) 0 _ rfl)
  have e1 := rs.row.cell (rowA_at m (n + 1) q (by omega) 1 _ rfl)
  have e2 := rs.row.cell (rowA_at m (n + 1) q (by omega) 2 _ rfl)
  have e3 := rs.row.cell (rowA_at m (n + 1) q (by omega) 3 _ rfl)
  rw [hr] at e0 e1 e2 e3
  simp only [Nat.add_zero] at e0 e1 e2 e3
  have hl0 := rs.box.lt
  have hl1 := rs.row.lt
  have hl3 := rs.ptr.lt
  have hlX := kX.lt
  have HRS := Lib.hid rs
  have SK := Lib.hid (fun W' (hW : Below W.heap.size W W') => show ((W'.cell? ⟨w.heap.size, 0, none⟩ = some (.int .i64 s1) ∧ W'.cell? ⟨w.heap.size, 1, none⟩ = some (.int .i64 s2) ∧ W'.cell? ⟨w.heap.size, 2, none⟩ = some (.int .i64 s3) ∧ W'.cell? ⟨w.heap.size, 3, none⟩ = some (.slice A n cap)) ∧ W'.cell? ⟨g3, 0, none⟩ = some (.slice (some ⟨w.heap.size + 1, 0, none⟩) (n + 1) (n + 1))) ∧ (W'.cell? ⟨Bx, 0, none⟩ = some (.int .i64 (f : Int)) ∧ W'.cell? ⟨Bx, 1, none⟩ = some (.int .i64 x2)) ∧ W'.cell? ⟨w.heap.size + 1, q * 4, none⟩ = some (.int .i64 r1) ∧ W'.cell? ⟨w.heap.size + 1, q * 4 + 1, none⟩ = some (.int .i64 r2) ∧ W'.cell? ⟨w.heap.size + 1, q * 4 + 2, none⟩ = some (.int .i64 r3) ∧ W'.cell? ⟨w.heap.size + 1, q * 4 + 3, none⟩ = some (.int .i64 r4) from
    ⟨⟨(HRS.out.box.below hW hl0).c4.1, (HRS.out.ptr.below hW hl3).c1.1⟩, (kX.below hW hlX).c2.1, (hW.cell (p := ⟨w.heap.size + 1, q * 4, none⟩) hl1).trans e0, (hW.cell (p := ⟨w.heap.size + 1, q * 4 + 1, none⟩) hl1).trans e1, (hW.cell (p := ⟨w.heap.size + 1, q * 4 + 2, none⟩) hl1).trans e2, (hW.cell (p := ⟨w.heap.size + 1, q * 4 + 3, none⟩) hl1).trans e3⟩)
  have BH := Lib.hid (fun W' => hq ▸ behind_any s1 s2 s3 A n cap f x2 W' (by omega) (by omega))
  unfold vB at BH
  have HQ := Lib.hid hq
  have HR := Lib.hid hr
  have lbi : Below W.heap.size W W := Below.refl _ _
  obtain ⟨⟨⟨i0, i1, i2, i3⟩, i4⟩, ⟨i5, i6⟩, -⟩ := SK.out W lbi
  have hqi : (q : Int) < ((n + 1 : Nat) : Int) := by omega
  have KB := Lib.hid kB
  have KS := Lib.hid kS
  clear hq hr e0 e1 e2 e3 rs kB kS kX hx htb hb
  have hmix : Try.prog.follows .mixedOrders = true := by kernel_rfl
  refine wpIn_block (wpIn_seq (wpIn_mono (Q := fun e a' W' => e = .normal ∧ ∃ (g9 : Nat) (v35 v36 v37 v38 v39 v40 : Value), a' = { tmps := #[u0, .pointer (some ⟨w.heap.size, 0, none⟩), u2, .pointer (some ⟨g3, 0, none⟩), u4, .pointer (some ⟨gB, 0, none⟩), .pointer (some ⟨gS, 0, none⟩), .pointer (some ⟨Bx, 0, none⟩), .int .i64 v, .pointer (some ⟨g9, 0, none⟩), u10, u11, u12, u13, u14, u15, u16, u17, u18, u19, u20, u21, u22, u23, u24, u25, u26, u27, u28, u29, u30, u31, u32, u33, u34, v35, v36, v37, v38, v39, v40, u41, u42, u43, u44, u45, u46, u47, u48, u49, u50, u51, u52, u53, u54, u55, u56, u57, u58, u59, u60, u61, u62, u63, u64, u65, u66, u67, u68], defers := [] } ∧ Bk W' g9 113 #[.int .i64 r1, .int .i64 r2, .int .i64 r3, .int .i64 r4] ∧ Bx < g9 ∧ Below W.heap.size W W') ?reg ?rest))
  case reg =>
    gi_region_with_o (refine ⟨trivial, ?_⟩; gi_at_call 50; refine (CallsIn.inRound l (callsIn_wide.2 (BH.out _))).mono ?_; rintro e w5 ⟨rfl, hb5⟩; (first | (have lb5 := thru (bdr lbi) hb5; obtain ⟨⟨⟨j0, j1, j2, j3⟩, j4⟩, ⟨j5, j6⟩, j7, j8, j9, j10⟩ := SK.out w5 lb5) | (have lb5 := thru (bdr (ba lbi)) hb5; have kq := (Bk.newAt W #[.int .i64 0, .int .i64 0, .int .i64 0, .int .i64 0] 113 W.heap.size rfl).drew.below hb5 (by simp); obtain ⟨⟨k0, k1, k2, k3⟩, ⟨f0, f1, f2, f3⟩⟩ := kq.c4; obtain ⟨⟨⟨j0, j1, j2, j3⟩, j4⟩, ⟨j5, j6⟩, j7, j8, j9, j10⟩ := SK.out w5 lb5)); have hs5 := lb5.size; have hl5 : w.heap.size + 1 < w5.heap.size := Nat.lt_of_lt_of_le hl1 hs5; have hl6 : g3 < w5.heap.size := Nat.lt_of_lt_of_le hl3 hs5; dsimp only)
    all_goals
      refine ⟨rfl, _, ⟨_, _, _, _, _, _, rfl⟩, ?_, ?_, ?_⟩
      · first
          | (with_reducible exact Bk.newAt w5 #[.int .i64 r1, .int .i64 r2, .int .i64 r3, .int .i64 r4] 113 w5.heap.size rfl)
          | (have kq3 := (((kq.put 0 (.int .i64 r1) #[.int .i64 r1, .int .i64 0, .int .i64 0, .int .i64 0] rfl).put 1 (.int .i64 r2) #[.int .i64 r1, .int .i64 r2, .int .i64 0, .int .i64 0] rfl).put 2 (.int .i64 r3) #[.int .i64 r1, .int .i64 r2, .int .i64 r3, .int .i64 0] rfl).put 3 (.int .i64 r4) #[.int .i64 r1, .int .i64 r2, .int .i64 r3, .int .i64 r4] rfl
             with_reducible exact kq3)
      · first
          | (with_reducible exact hlX)
          | (with_reducible exact Nat.lt_of_lt_of_le hlX hs5)
      · repeat (first | (with_reducible exact lb5) | (with_reducible apply ba) | (with_reducible refine bs ?_ (Nat.le_refl _)))
  case rest =>
    rintro e a' W' ⟨rfl, g9, v35, v36, v37, v38, v39, v40, rfl, k9, hlt9, hbl⟩
    dsimp only
    have kB' := KB.out.below hbl KB.out.lt
    have kS' := KS.out.below hbl KS.out.lt
    have kX' := (HRS.out.keep hbl hl3)
    obtain ⟨⟨⟨j0, j1, j2, j3⟩, j4⟩, ⟨j5, j6⟩, -⟩ := SK.out W' hbl
    obtain ⟨⟨n0, n1, n2, n3⟩, -⟩ := k9.c4
    obtain ⟨⟨p0, p1, p2, p3⟩, ⟨f0, f1, f2, f3⟩⟩ := kB'.c4
    obtain ⟨t0, f4⟩ := kS'.c1
    have hl9 := k9.lt
    have hlB := kB'.lt
    have hlS := kS'.lt
    have hlX' := Nat.lt_of_lt_of_le hlX hbl.size
    have hst : Stp gB gS W W' := (Stp.refl gB gS W).below hbl
    show Code.wpIn _ _ _ _ _ _ _
    have CM := Lib.hid (fun W2 => compare_any (v + r1) (1 + r2) f x2 b1 b2 b3 b4 W2)
    have hST := Lib.hid (show stepR m s3 n ((b1, b2, b3, b4), sm) ((f : Int), x2, v) = if 0 < rcF (v + r1, 1 + r2, (f : Int), x2) (b1, b2, b3, b4) ∨ rcF (v + r1, 1 + r2, (f : Int), x2) (b1, b2, b3, b4) = 0 ∧ sm = false then ((v + r1, 1 + r2, (f : Int), x2), true) else ((b1, b2, b3, b4), sm) by
      unfold stepR
      simp only [HQ.out, Int.toNat_natCast, HR.out])
    generalize rcF (v + r1, 1 + r2, (f : Int), x2) (b1, b2, b3, b4) = rc at *
    obtain ⟨g1, g2, g3', g4, -⟩ := hrk
    simp only at g1 g2 g3' g4
    have hr1 : 0 ≤ r1 ∧ r1 ≤ 3000000 := by omega
    have hv2 : 0 ≤ v ∧ v ≤ 3000000 := by omega
    have hr2 : 0 ≤ r2 ∧ r2 ≤ 3000 := by omega
    clear g1 g2 g3' g4
    have hSZ := hbl.size
    have HST := Lib.hid hst
    have HK9 := Lib.hid k9
    have HKB := Lib.hid kB'
    have HKS := Lib.hid kS'
    clear hst k9 kB' kS' kX' hbl
    have hgS : ¬ gB = gS := by omega
    have hgS' : ¬ gS = gB := by omega
    by_cases hc : 0 < rc
    · have hSTv := hST.out.trans (if_pos (.inl hc))
      clear hST
      have HV := Lib.hid hSTv
      clear hSTv
      gi_wp2_with (refine ⟨trivial, ?_⟩; gi_at_call 78; refine (CallsIn.inRound l (callsIn_wide.2 (CM.out _))).mono ?_; rintro e w6 ⟨rfl, hb6⟩; have k10 := (Bk.newAt W' #[.int .i64 (v + r1), .int .i64 (1 + r2), .int .i64 (f : Int), .int .i64 x2] 113 W'.heap.size rfl).below hb6 (by simp); obtain ⟨⟨a0, a1, a2, a3⟩, -⟩ := k10.c4; have kB6 := (HKB.out.alloc (.cells #[.int .i64 (v + r1), .int .i64 (1 + r2), .int .i64 (f : Int), .int .i64 x2] 113)).below hb6 (by simp; omega); obtain ⟨⟨d0, d1, d2, d3⟩, ⟨h0', h1', h2', h3'⟩⟩ := kB6.c4; have kS6 := (HKS.out.alloc (.cells #[.int .i64 (v + r1), .int .i64 (1 + r2), .int .i64 (f : Int), .int .i64 x2] 113)).below hb6 (by simp; omega); obtain ⟨d4, d5⟩ := kS6.c1; have st6 := (HST.out.alloc (.cells #[.int .i64 (v + r1), .int .i64 (1 + r2), .int .i64 (f : Int), .int .i64 x2] 113)).below hb6)
      have ST6 := Lib.hid st6
      exact ⟨rfl, ((((ST6.out.set (p := ⟨gB, 0, none⟩) (.inl rfl) (.int .i64 (v + r1))).set (p := ⟨gB, 1, none⟩) (.inl rfl) (.int .i64 (1 + r2))).set (p := ⟨gB, 2, none⟩) (.inl rfl) (.int .i64 f)).set (p := ⟨gB, 3, none⟩) (.inl rfl) (.int .i64 x2)).set (p := ⟨gS, 0, none⟩) (.inr rfl) (.bool true), by rw [HV.out]; exact ((((kB6.put 0 _ #[.int .i64 (v + r1), .int .i64 b2, .int .i64 b3, .int .i64 b4] rfl).put 1 _ #[.int .i64 (v + r1), .int .i64 (1 + r2), .int .i64 b3, .int .i64 b4] rfl).put 2 _ #[.int .i64 (v + r1), .int .i64 (1 + r2), .int .i64 f, .int .i64 b4] rfl).put 3 _ #[.int .i64 (v + r1), .int .i64 (1 + r2), .int .i64 (f : Int), .int .i64 x2] rfl).other (by simp; omega) _, by rw [HV.out]; exact ((((kS6.other (by simp; omega) _).other (by simp; omega) _).other (by simp; omega) _).other (by simp; omega) _).put 0 _ #[.bool true] rfl⟩
    · have hcd : decide (0 < rc) = false := by simpa using hc
      by_cases hz : rc = 0
      · subst hz
        cases hsm : sm
        · have hSTv := hST.out.trans (if_pos (.inr ⟨rfl, hsm⟩))
          subst hsm
          have HV := Lib.hid hSTv
          clear hSTv
          gi_wp2_with (refine ⟨trivial, ?_⟩; gi_at_call 78; refine (CallsIn.inRound l (callsIn_wide.2 (CM.out _))).mono ?_; rintro e w6 ⟨rfl, hb6⟩; have k10 := (Bk.newAt W' #[.int .i64 (v + r1), .int .i64 (1 + r2), .int .i64 (f : Int), .int .i64 x2] 113 W'.heap.size rfl).below hb6 (by simp); obtain ⟨⟨a0, a1, a2, a3⟩, -⟩ := k10.c4; have kB6 := (HKB.out.alloc (.cells #[.int .i64 (v + r1), .int .i64 (1 + r2), .int .i64 (f : Int), .int .i64 x2] 113)).below hb6 (by simp; omega); obtain ⟨⟨d0, d1, d2, d3⟩, ⟨h0', h1', h2', h3'⟩⟩ := kB6.c4; have kS6 := (HKS.out.alloc (.cells #[.int .i64 (v + r1), .int .i64 (1 + r2), .int .i64 (f : Int), .int .i64 x2] 113)).below hb6 (by simp; omega); obtain ⟨d4, d5⟩ := kS6.c1; have st6 := (HST.out.alloc (.cells #[.int .i64 (v + r1), .int .i64 (1 + r2), .int .i64 (f : Int), .int .i64 x2] 113)).below hb6)
          have ST6 := Lib.hid st6
          exact ⟨rfl, ((((ST6.out.set (p := ⟨gB, 0, none⟩) (.inl rfl) (.int .i64 (v + r1))).set (p := ⟨gB, 1, none⟩) (.inl rfl) (.int .i64 (1 + r2))).set (p := ⟨gB, 2, none⟩) (.inl rfl) (.int .i64 f)).set (p := ⟨gB, 3, none⟩) (.inl rfl) (.int .i64 x2)).set (p := ⟨gS, 0, none⟩) (.inr rfl) (.bool true), by rw [HV.out]; exact ((((kB6.put 0 _ #[.int .i64 (v + r1), .int .i64 b2, .int .i64 b3, .int .i64 b4] rfl).put 1 _ #[.int .i64 (v + r1), .int .i64 (1 + r2), .int .i64 b3, .int .i64 b4] rfl).put 2 _ #[.int .i64 (v + r1), .int .i64 (1 + r2), .int .i64 f, .int .i64 b4] rfl).put 3 _ #[.int .i64 (v + r1), .int .i64 (1 + r2), .int .i64 (f : Int), .int .i64 x2] rfl).other (by simp; omega) _, by rw [HV.out]; exact ((((kS6.other (by simp; omega) _).other (by simp; omega) _).other (by simp; omega) _).other (by simp; omega) _).put 0 _ #[.bool true] rfl⟩
        · have hSTv := hST.out.trans (if_neg (by rw [hsm]; simp))
          subst hsm
          have HV := Lib.hid hSTv
          clear hSTv
          gi_wp2_with (refine ⟨trivial, ?_⟩; gi_at_call 78; refine (CallsIn.inRound l (callsIn_wide.2 (CM.out _))).mono ?_; rintro e w6 ⟨rfl, hb6⟩; have k10 := (Bk.newAt W' #[.int .i64 (v + r1), .int .i64 (1 + r2), .int .i64 (f : Int), .int .i64 x2] 113 W'.heap.size rfl).below hb6 (by simp); obtain ⟨⟨a0, a1, a2, a3⟩, -⟩ := k10.c4; have kB6 := (HKB.out.alloc (.cells #[.int .i64 (v + r1), .int .i64 (1 + r2), .int .i64 (f : Int), .int .i64 x2] 113)).below hb6 (by simp; omega); obtain ⟨⟨d0, d1, d2, d3⟩, ⟨h0', h1', h2', h3'⟩⟩ := kB6.c4; have kS6 := (HKS.out.alloc (.cells #[.int .i64 (v + r1), .int .i64 (1 + r2), .int .i64 (f : Int), .int .i64 x2] 113)).below hb6 (by simp; omega); obtain ⟨d4, d5⟩ := kS6.c1; have st6 := (HST.out.alloc (.cells #[.int .i64 (v + r1), .int .i64 (1 + r2), .int .i64 (f : Int), .int .i64 x2] 113)).below hb6)
          have ST6 := Lib.hid st6
          exact ⟨rfl, ST6.out, by rw [HV.out]; exact kB6, by rw [HV.out]; exact kS6⟩
      · have hSTv := hST.out.trans (if_neg (by rintro (h | ⟨h, -⟩) <;> omega))
        have hz1 : decide (rc = 0) = false := by simpa using hz
        have hz2 : (rc == 0) = false := by simpa using hz
        have HV := Lib.hid hSTv
        clear hSTv
        gi_wp2_with (refine ⟨trivial, ?_⟩; gi_at_call 78; refine (CallsIn.inRound l (callsIn_wide.2 (CM.out _))).mono ?_; rintro e w6 ⟨rfl, hb6⟩; have k10 := (Bk.newAt W' #[.int .i64 (v + r1), .int .i64 (1 + r2), .int .i64 (f : Int), .int .i64 x2] 113 W'.heap.size rfl).below hb6 (by simp); obtain ⟨⟨a0, a1, a2, a3⟩, -⟩ := k10.c4; have kB6 := (HKB.out.alloc (.cells #[.int .i64 (v + r1), .int .i64 (1 + r2), .int .i64 (f : Int), .int .i64 x2] 113)).below hb6 (by simp; omega); obtain ⟨⟨d0, d1, d2, d3⟩, ⟨h0', h1', h2', h3'⟩⟩ := kB6.c4; have kS6 := (HKS.out.alloc (.cells #[.int .i64 (v + r1), .int .i64 (1 + r2), .int .i64 (f : Int), .int .i64 x2] 113)).below hb6 (by simp; omega); obtain ⟨d4, d5⟩ := kS6.c1; have st6 := (HST.out.alloc (.cells #[.int .i64 (v + r1), .int .i64 (1 + r2), .int .i64 (f : Int), .int .i64 x2] 113)).below hb6)
        have ST6 := Lib.hid st6
        exact ⟨rfl, ST6.out, by rw [HV.out]; exact kB6, by rw [HV.out]; exact kS6⟩
end Go.Proofs.Ytlkfcbdbieenhaa
