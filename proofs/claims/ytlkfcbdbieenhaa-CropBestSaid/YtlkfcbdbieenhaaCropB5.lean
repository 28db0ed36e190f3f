/-
  Walks of chapter 7, the best cropping: rests.
-/
import Derived.Test.YtlkfcbdbieenhaaCropB6
namespace Go.Proofs.Ytlkfcbdbieenhaa
open Go.RowKit Go.Shelf

attribute [local go_sem] Oper.semAt_some

/-- What the loop of rests keeps. -/
def restsI (w : World) (n cap g3 : Nat) (s1 s2 s3 : Int) (A : Option Addr) (ws : List Int) (a : Act) (wv : World) : Prop :=
  ∃ (k : Nat) (ds : List Deferred) (i : Int) (u5 u6 u7 u8 u9 u10 u11 u12 u13 u14 u15 u16 u17 u18 u19 u20 u21 u22 u23 u24 u25 u26 u27 u28 u29 u30 u31 u32 u33 u34 u35 u36 u37 u38 u39 u40 u41 u42 u43 u44 u45 u46 u47 u48 u49 u50 u51 u52 u53 u54 u55 u56 u57 u58 u59 u60 u61 u62 u63 u64 u65 u66 u67 u68 : Value), k ≤ n ∧ i = (n : Int) - 1 - k ∧ a = { tmps := #[.agg #[.int .i64 s1, .int .i64 s2, .int .i64 s3, .slice A n cap], .pointer (some ⟨w.heap.size, 0, none⟩), .slice none 0 0, .pointer (some ⟨g3, 0, none⟩), .int .i64 i, u5, u6, u7, u8, u9, u10, u11, u12, u13, u14, u15, u16, u17, u18, u19, u20, u21, u22, u23, u24, u25, u26, u27, u28, u29, u30, u31, u32, u33, u34, u35, u36, u37, u38, u39, u40, u41, u42, u43, u44, u45, u46, u47, u48, u49, u50, u51, u52, u53, u54, u55, u56, u57, u58, u59, u60, u61, u62, u63, u64, u65, u66, u67, u68], defers := ds } ∧ RS w wv g3 n s1 s2 s3 A cap (tblF ws s1 s2 s3 k) ∧ marksOk w.heap.size wv ds
def restsM (a : Act) (_ : World) : Nat := (intOf (a.tmps.getD 4 undef) + 1).toNat
theorem RS.put {w wv : World} {g3 n : Nat} {s1 s2 s3 : Int} {A : Option Addr} {cap : Nat} {m : Nat → Rs} (h : RS w wv g3 n s1 s2 s3 A cap m) (f : Nat) (c1 c2 c3 c4 : Int) :
    RS w ((((wv.setCell ⟨w.heap.size + 1, f * 4, none⟩ (.int .i64 c1)).setCell ⟨w.heap.size + 1, f * 4 + 1, none⟩ (.int .i64 c2)).setCell ⟨w.heap.size + 1, f * 4 + 2, none⟩ (.int .i64 c3)).setCell ⟨w.heap.size + 1, f * 4 + 3, none⟩ (.int .i64 c4)) g3 n s1 s2 s3 A cap (upR m f (c1, c2, c3, c4)) := by
  have hl := h.lt
  exact ⟨bs (bs (bs (bs h.bel (by simp)) (by simp)) (by simp)) (by simp), (((h.box.other (by simp) _).other (by simp) _).other (by simp) _).other (by simp) _, (((h.row.put _ _ _ rfl).put _ _ _ rfl).put _ _ _ rfl).put _ _ _ (rowA_set m (n + 1) f (c1, c2, c3, c4)), (((h.ptr.other (by simp; omega) _).other (by simp; omega) _).other (by simp; omega) _).other (by simp; omega) _, h.lt⟩
theorem marks_set {B : Nat} {W : World} {ds : List Deferred} {g : Nat} {t : TypeId} {cs : Array Value} (h : marksOk B W ds) (hg : Bk W g t cs) (j : Nat) (u : Value) : marksOk B (W.setCell ⟨g, j, none⟩ u) ds :=
  h.keep fun D _ hD => (Below.heap_setCell W ⟨g, j, none⟩ u D (fun e => by subst e; unfold Bk at hg; rw [hg] at hD; cases hD)).trans hD

set_option maxRecDepth 100000 in
set_option maxHeartbeats 40000000 in
theorem rests_any (s1 s2 s3 : Int) (A : Option Addr) (n cap B : Nat) (ws : List Int) (w : World) (h : Sl eI 1 w B A n ws) (hB : B ≤ w.heap.size) (hs : 1 ≤ s1 ∧ s1 ≤ s2 ∧ s2 ≤ 600) (hs3 : 0 ≤ s3 ∧ s3 ≤ 20) (hn : n ≤ 3000) (hw : ∀ x ∈ ws, -1 ≤ x ∧ x ≤ 1000) :
    Calls Try.prog 49 #[vB s1 s2 s3 A n cap] w fun e w' => ∃ g, e = .returned (.slice (some ⟨g, 0, none⟩) (n + 1) (n + 1)) ∧ Bk w' g 113 (rowA (tblF ws s1 s2 s3 n) (n + 1)) ∧ w.heap.size ≤ g ∧ Below w.heap.size w w' := by
  unfold vB
  have hlen := h.len
  obtain ⟨ri, hi, hz, hsz, hby⟩ := info_parts infoR
  refine (callsIn_wide (n := 3)).1 ?_
  refine callsIn_of_wp_marks Try.func49 rfl trivial ?_ rfl
  simp only [Try.ntmps49, List.size_toArray, List.length_cons, List.length_nil, Nat.reduceAdd, Nat.reduceSub, Array.replicate_succ, Array.replicate_zero, List.push_toArray, List.append_toArray, List.nil_append, List.cons_append]
  refine wpIn_wide.2 ?_
  go_wp2_with (first
    | (at_make; refine wpList_make_full _ rfl _ _ _ rfl (w.heap.size + 1) 113 ri _ 4 (by kernel_rfl) hi hz hsz _ _ _ _ (n + 1) rfl rfl rfl rfl (by rw [hby]; omega) (by unfold maxLen; omega) (by simp) ?_; intro w3 hown3 hgrow3; have hg3 : Bk w3 (w.heap.size + 1) 113 (rowA (fun _ => (0, 0, 0, 0)) (n + 1)) := made_row (own_whole (by simpa using hown3)); have kb3 : Bk w3 w.heap.size 108 #[.int .i64 s1, .int .i64 s2, .int .i64 s3, .slice A n cap] := (Bk.newAt w _ _ _ rfl).grown hgrow3 (by simp); have hb3 : Below w.heap.size w w3 := (ba (Below.refl _ _)).grown hgrow3 (by simp) (fun k e => by cases e); have hlt3 := hg3.lt; have hlt0 := kb3.lt; obtain ⟨⟨c0, c1, c2, c3⟩, -⟩ := kb3.c4; clear hown3 hgrow3))
  have rs0 : RS w (w3.alloc (.cells #[.slice (some ⟨w.heap.size + 1, 0, none⟩) (n + 1) (n + 1)] 110)) w3.heap.size n s1 s2 s3 A cap (tblF ws s1 s2 s3 0) :=
    ⟨ba hb3, kb3.alloc _, hg3.alloc _, Bk.newAt _ _ _ _ rfl, hlt3⟩
  have RS0 := Lib.hid rs0
  clear rs0 hg3 kb3 hb3 c0 c1 c2 c3
  refine wp_loop (restsI w n cap w3.heap.size s1 s2 s3 A ws) restsM ?_ ?_
  · unfold restsI
    exact ⟨0, [], (n : Int) - 1, _, _, _, _, _, _, _, _, _, _, _, _, _, _, _, _, _, _, _, _, _, _, _, _, _, _, _, _, _, _, _, _, _, _, _, _, _, _, _, _, _, _, _, _, _, _, _, _, _, _, _, _, _, _, _, _, _, _, _, _, _, _, _, _, Nat.zero_le _, by simp, rfl, RS0.out, trivial⟩
  · rintro a wv ⟨k, ds, i, u5, u6, u7, u8, u9, u10, u11, u12, u13, u14, u15, u16, u17, u18, u19, u20, u21, u22, u23, u24, u25, u26, u27, u28, u29, u30, u31, u32, u33, u34, u35, u36, u37, u38, u39, u40, u41, u42, u43, u44, u45, u46, u47, u48, u49, u50, u51, u52, u53, u54, u55, u56, u57, u58, u59, u60, u61, u62, u63, u64, u65, u66, u67, u68, hk, hik, rfl, rs, hds⟩
    dsimp only
    by_cases hlt : k < n
    · obtain ⟨f, hf⟩ : ∃ f : Nat, n = f + k + 1 := ⟨n - k - 1, by omega⟩
      obtain rfl : i = (f : Int) := by omega
      have htb := tblF_ok (s1 := s1) (s2 := s2) (s3 := s3) hw hs3.1 k (by omega)
      rw [hlen] at htb
      generalize hm : tblF ws s1 s2 s3 k = m at *
      obtain ⟨⟨r1, r2, r3, r4⟩, hr⟩ : ∃ r : Rs, m (f + 1) = r := ⟨_, rfl⟩
      have e0 := rs.row.cell (rowA_at m (n + 1) (f + 1) (by omega) 0 _ rfl)
      have e1 := rs.row.cell (rowA_at m (n + 1) (f + 1) (by omega) 1 _ rfl)
      have e2 := rs.row.cell (rowA_at m (n + 1) (f + 1) (by omega) 2 _ rfl)
      have e3 := rs.row.cell (rowA_at m (n + 1) (f + 1) (by omega) 3 _ rfl)
      rw [hr] at e0 e1 e2 e3
      simp only [Nat.add_zero] at e0 e1 e2 e3
      obtain ⟨⟨c0, c1, c2, c3⟩, -⟩ := rs.box.c4
      obtain ⟨p0, -⟩ := rs.ptr.c1
      have HRS := Lib.hid rs
      have HDS := Lib.hid hds
      have HF := Lib.hid hf
      have HM := Lib.hid hm
      have HR := Lib.hid hr
      have HTB := Lib.hid htb
      have hl0 := rs.box.lt
      have hl1 := rs.row.lt
      have hl3 := rs.ptr.lt
      have hi1 : (f : Int) + 1 < ((n + 1 : Nat) : Int) := by omega
      clear rs hds hf hm hr htb hik
      go_wp2_with (go_at_call 66; refine (blocks_any _ _ _ _ _ _ _ _).mono ?_; rintro e w4 ⟨rfl, rfl⟩)
      obtain ⟨W0, hW0⟩ : ∃ W0, (((wv.alloc (.cells #[.int .i64 r1, .int .i64 r2, .int .i64 r3, .int .i64 r4] 113)).alloc (.cells #[.bool false] 4)).alloc (.cells #[.int .i64 s1, .int .i64 s2, .int .i64 s3, .slice A n cap] 108)).alloc (.cells #[.int .i64 f] 3) = W0 := ⟨_, rfl⟩
      have kB : Bk W0 wv.heap.size 113 #[.int .i64 r1, .int .i64 r2, .int .i64 r3, .int .i64 r4] := hW0 ▸ (((Bk.newAt wv _ _ _ rfl).alloc _).alloc _).alloc _
      have kS : Bk W0 (wv.heap.size + 1) 4 #[.bool false] := hW0 ▸ ((Bk.newAt (wv.alloc _) _ _ _ (by simp)).alloc _).alloc _
      have kb : Bk W0 (wv.heap.size + 1 + 1) 108 #[.int .i64 s1, .int .i64 s2, .int .i64 s3, .slice A n cap] := hW0 ▸ (Bk.newAt ((wv.alloc _).alloc _) _ _ _ (by simp)).alloc _
      have kf : Bk W0 (wv.heap.size + 1 + 1 + 1) 3 #[.int .i64 f] := hW0 ▸ Bk.newAt (((wv.alloc _).alloc _).alloc _) _ _ _ (by simp)
      have hbW : Below wv.heap.size wv W0 := hW0 ▸ ba (ba (ba (ba (Below.refl _ _))))
      have hsW : W0.heap.size = wv.heap.size + 4 := by rw [← hW0]; simp
      rw [hW0]
      generalize hgB : wv.heap.size = gB at *
      clear hW0
      have hsl0 := (h.below ((HRS.out.bel.trans (hbW.mono (by have := HRS.out.bel.size; omega))).mono hB))
      obtain ⟨b, off, hA, hbB, -⟩ := hsl0.2 (by intro h0; rw [h0] at hlen; simp at hlen; have := HF.out; omega)
      subst hA
      have hN1 : f < n := by have := HF.out; omega
      have hBw := HRS.out.bel.size
      have HKB := Lib.hid kB
      have HKS := Lib.hid kS
      have HBW := Lib.hid hbW
      have HSB := Lib.hid (show ∀ k, (k = gB + 1 + 1 + 1 ∨ k = gB + 1 + 1 ∨ k = b) → k < W0.heap.size ∧ k ≠ gB ∧ k ≠ gB + 1 from fun k hk => by rcases hk with rfl | rfl | rfl <;> omega)
      have hst := blocks_stops (3 - 1) (by omega) (gB + 1 + 1 + 1) (gB + 1 + 1) b off cap n f (fun k => k = gB + 1 + 1 + 1 ∨ k = gB + 1 + 1 ∨ k = b) (.inl rfl) (.inr (.inl rfl)) (.inr (.inr rfl)) s1 s2 s3 ws hs hlen hn hN1 hw W0 B kf kb hsl0 (by omega)
      have hbst : (bestF m s3 n f []) = ((r1, r2, r3, r4), false) := by show (m (f + 1), false) = _; rw [HR.out]
      have hIw : OwnFrom W0.heap.size (fun (pre : List (Yf f n)) (W : World) => (Bk W gB 113 #[.int .i64 (bestF m s3 n f (pre.map Subtype.val)).1.1, .int .i64 (bestF m s3 n f (pre.map Subtype.val)).1.2.1, .int .i64 (bestF m s3 n f (pre.map Subtype.val)).1.2.2.1, .int .i64 (bestF m s3 n f (pre.map Subtype.val)).1.2.2.2] ∧ Bk W (gB + 1) 4 #[.bool (bestF m s3 n f (pre.map Subtype.val)).2]) ∧ Below gB W0 W) := fun s X Y row hs' hg hr =>
        ⟨⟨(hg.block gB hs'.1.1.lt (fun e => by have := (hr _ e.symm).1; omega)).trans hs'.1.1, (hg.block (gB + 1) hs'.1.2.lt (fun e => by have := (hr _ e.symm).1; omega)).trans hs'.1.2⟩, hs'.2.grown hg (Nat.le_trans (by omega) hs'.2.size) (fun r e => by have := (hr r e).1; omega)⟩
      refine (wpIn_wide (n := 3)).1 ?_
      refine wpIn_rangeFunc_ownH rfl (by omega) (gf := 83) (lb := #[.pointer (some ⟨gB + 1 + 1 + 1, 0, none⟩), .pointer (some ⟨gB + 1 + 1, 0, none⟩)]) rfl trivial (enters_of Try.func83 (by kernel_rfl) rfl) hst
        (fun h1 h2 => h1.trans h2) (fun W l o o' hl ho _ _ k o2 hk hk2 => (World.putObj_heap_other (fun e => by have := (HSB.out k hk).1; omega)).trans hk2) (Below.refl _ _) (fun _ => rfl)
        (fun (pre : List (Yf f n)) (W : World) => (Bk W gB 113 #[.int .i64 (bestF m s3 n f (pre.map Subtype.val)).1.1, .int .i64 (bestF m s3 n f (pre.map Subtype.val)).1.2.1, .int .i64 (bestF m s3 n f (pre.map Subtype.val)).1.2.2.1, .int .i64 (bestF m s3 n f (pre.map Subtype.val)).1.2.2.2] ∧ Bk W (gB + 1) 4 #[.bool (bestF m s3 n f (pre.map Subtype.val)).2]) ∧ Below gB W0 W)
        (fun _ _ _ => False) hIw (fun _ _ _ _ _ hs _ _ => hs)
        ⟨⟨by rw [List.map_nil, hbst]; exact HKB.out, by rw [List.map_nil, hbst]; exact HKS.out⟩, Below.refl _ _⟩
        (fun x a' W => ∃ Bx, gB + 1 < Bx ∧ Bk W Bx 49 #[.int .i64 x.1.1, .int .i64 x.1.2.1] ∧ a' = { tmps := #[.agg #[.int .i64 s1, .int .i64 s2, .int .i64 s3, .slice (some ⟨b, off, none⟩) n cap], .pointer (some ⟨w.heap.size, 0, none⟩), .slice none 0 0, .pointer (some ⟨w3.heap.size, 0, none⟩), .int .i64 f, .pointer (some ⟨gB, 0, none⟩), .pointer (some ⟨gB + 1, 0, none⟩), .pointer (some ⟨Bx, 0, none⟩), .int .i64 x.1.2.2, u9, u10, u11, u12, u13, u14, u15, u16, u17, u18, u19, u20, .int .i64 f, .bool true, u23, u24, .slice (some ⟨w.heap.size + 1, 0, none⟩) (n + 1) (n + 1), .int .i64 f, .int .i64 ((f : Int) + 1), .pointer (some ⟨w.heap.size + 1, (f + 1) * 4, none⟩), .agg #[.int .i64 r1, .int .i64 r2, .int .i64 r3, .int .i64 r4], .agg #[.int .i64 s1, .int .i64 s2, .int .i64 s3, .slice (some ⟨b, off, none⟩) n cap], .int .i64 f, .func (.func 83) #[] #[.pointer (some ⟨gB + 1 + 1 + 1, 0, none⟩), .pointer (some ⟨gB + 1 + 1, 0, none⟩)], .agg #[.int .i64 x.1.1, .int .i64 x.1.2.1], .int .i64 x.1.2.2, u35, u36, u37, u38, u39, u40, u41, u42, u43, u44, u45, u46, u47, u48, u49, u50, u51, u52, u53, u54, u55, u56, u57, u58, u59, u60, u61, u62, u63, u64, u65, u66, u67, u68], defers := [] })
        (fun x a' _ X Y row hs' hg hr => by obtain ⟨Bx, h1, h2, h3⟩ := hs'; exact ⟨Bx, h1, (hg.block Bx h2.lt (fun e => by obtain ⟨_, o, ho, hc⟩ := hr _ e.symm; unfold Bk at h2; rw [h2] at ho; injection ho with ho; subst ho; cases hc)).trans h2, h3⟩)
        ?assign ?body ?done ?stop
      case assign =>
        rintro l pre x W K ⟨⟨kB1, kS1⟩, hb1⟩ hK
        have HKB1 := Lib.hid kB1
        have HKS1 := Lib.hid kS1
        have hlS := kS1.lt
        clear kB1 kS1
        gi_wp2
        exact hK _ _ ((KeepsOthers.alloc _ _).from _) (fun k o hk ho => (Below.heap_alloc W _ k (lt_of_some ho)).trans ho) ⟨⟨HKB1.out.alloc _, HKS1.out.alloc _⟩, hb1.alloc (Nat.le_trans (by omega) hb1.size) _⟩ ⟨W.heap.size, hlS, Bk.newAt W _ _ _ rfl, rfl⟩
      case body =>
        rintro l pre x a' W hl hr ⟨⟨kB1, kS1⟩, hb1⟩ ⟨Bx, hBx, kX, rfl⟩ hlt
        have hok : okR n f (bestF m s3 n f (pre.map Subtype.val)).1 := bestF_ok hs3.1 hN1 HTB.out _ (fun y hy => by obtain ⟨z, _, rfl⟩ := List.mem_map.1 hy; exact z.2)
        refine wpIn_mono (rests_body l w W w3.heap.size gB (gB + 1) Bx n f s1 s2 s3 (some ⟨b, off, none⟩) cap m _ _ _ _ _ x.1.1 x.1.2.1 x.1.2.2 (HRS.out.keep (HBW.out.trans hb1) (by omega)) (by omega) (by omega) hBx kB1 kS1 kX x.2 hs3 hn HTB.out hok _ _ _ _ _ _ _ _ _ _ _ _ _ _ _ _ _ _ _ _ _ _ _ _ _ _ _ _ _ _ _ _ _ _ _ _ _ _ _ _ _ _ _ _ _ _ _ _ _ _ _ _ _ _ _ _ _ _ _ _ _ _ _) ?_
        rintro e a' W' ⟨rfl, hst, kB2, kS2⟩
        have hle := hb1.size
        exact ⟨hst.from kB1 kS1 _, hst.on (fun hk => (HSB.out _ hk).2.1 rfl) (fun hk => (HSB.out _ hk).2.2 rfl), ⟨by rw [List.map_append, List.map_singleton, bestF_snoc]; exact kB2, by rw [List.map_append, List.map_singleton, bestF_snoc]; exact kS2⟩, hb1.trans (hst.bel gB (by omega) (Nat.le_refl _) (by omega))⟩
      case done =>
        rintro D ys W hD hys ⟨⟨kB1, kS1⟩, hb1⟩ hK
        have hbv := HBW.out.trans hb1
        have rs1 := HRS.out.keep hbv (by omega)
        have hls : ws.length - (k + 1) = f := by have := HF.out; omega
        have hT : tblF ws s1 s2 s3 (k + 1) = upR m f (bestF m s3 n f (yF ws s1 s2 f)).1 := by
          rw [← HM.out]
          show upR (tblF ws s1 s2 s3 k) (ws.length - (k + 1)) (bestF (tblF ws s1 s2 s3 k) s3 ws.length (ws.length - (k + 1)) (yF ws s1 s2 (ws.length - (k + 1)))).1 = _
          rw [hls, hlen]
        rw [hys] at kB1
        obtain ⟨c1, c2, c3, c4, hc⟩ : ∃ c1 c2 c3 c4 : Int, (bestF m s3 n f (yF ws s1 s2 f)).1 = (c1, c2, c3, c4) := ⟨_, _, _, _, rfl⟩
        rw [hc] at hT kB1
        simp only at kB1
        obtain ⟨⟨q0, q1, q2, q3⟩, -⟩ := kB1.c4
        obtain ⟨p0, -⟩ := rs1.ptr.c1
        have e0 := rs1.row.cell (rowA_at m (n + 1) f (by omega) 0 _ rfl)
        have e1 := rs1.row.cell (rowA_at m (n + 1) f (by omega) 1 _ rfl)
        have e2 := rs1.row.cell (rowA_at m (n + 1) f (by omega) 2 _ rfl)
        have e3 := rs1.row.cell (rowA_at m (n + 1) f (by omega) 3 _ rfl)
        simp only [Nat.add_zero] at e0 e1 e2 e3
        have f0 := rs1.row.frozen (f * 4)
        have f1 := rs1.row.frozen (f * 4 + 1)
        have f2 := rs1.row.frozen (f * 4 + 2)
        have f3 := rs1.row.frozen (f * 4 + 3)
        have hds1 : marksOk w.heap.size W ({ target := .collected D, args := #[] } :: ds) := ⟨⟨D, rfl, by omega, hK, fun d' hd e => by
          subst e
          have := HDS.out.lt D hd
          omega⟩, HDS.out.keep fun D' hm hD' => (hbv.block D' (by have := lt_of_some hD'; omega)).trans hD'⟩
        have r1' := rs1.row
        have hds2 := marks_set (marks_set (marks_set (marks_set hds1 r1' (f * 4) (.int .i64 c1)) (r1'.put (f * 4) (.int .i64 c1) _ rfl) (f * 4 + 1) (.int .i64 c2)) ((r1'.put (f * 4) (.int .i64 c1) _ rfl).put (f * 4 + 1) (.int .i64 c2) _ rfl) (f * 4 + 2) (.int .i64 c3)) (((r1'.put (f * 4) (.int .i64 c1) _ rfl).put (f * 4 + 1) (.int .i64 c2) _ rfl).put (f * 4 + 2) (.int .i64 c3) _ rfl) (f * 4 + 3) (.int .i64 c4)
        have HD2 := Lib.hid hds2
        have HR2 := Lib.hid (rs1.put f c1 c2 c3 c4)
        have HT := Lib.hid hT
        have hW1 := rs1.row.lt
        have hW3 := rs1.ptr.lt
        have hi1' : (f : Int) < ((n + 1 : Nat) : Int) := by omega
        clear hds1 hds2 r1' rs1 kB1 kS1 hb1 hbv hT hc hys hst hIw hbst hK hls
        go_wp2
        refine ⟨?_, ?_⟩
        · unfold restsI
          exact ⟨k + 1, _, (f : Int) - 1, _, _, _, _, _, _, _, _, _, _, _, _, _, _, _, _, _, _, _, _, _, _, _, _, _, _, _, _, _, _, _, _, _, _, _, _, _, _, _, _, _, _, _, _, _, _, _, _, _, _, _, _, _, _, _, _, _, _, _, _, _, _, _, _, by omega, by have := HF.out; omega, rfl, by rw [HT.out]; exact HR2.out, HD2.out⟩
        · simp [restsM, intOf]
      case stop =>
        rintro D c pre W _ _ hx _
        exact hx.elim
    · obtain rfl : k = n := by omega
      have hneg : decide ((0 : Int) ≤ i) = false := decide_eq_false (by omega)
      obtain ⟨p0, -⟩ := rs.ptr.c1
      have HRS := Lib.hid rs
      have HDS := Lib.hid hds
      clear rs hds hik
      go_wp2
      refine leaves_marks ds _ HDS.out ?_
      intro W' hb hc
      exact ⟨_, results_tmp rfl _ _ _, w.heap.size + 1, rfl, hc _ _ _ _ HRS.out.row, by omega, HRS.out.bel.trans hb⟩
end Go.Proofs.Ytlkfcbdbieenhaa
