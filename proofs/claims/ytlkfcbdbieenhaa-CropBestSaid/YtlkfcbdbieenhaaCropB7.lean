/-
  Walks of chapter 7, the best cropping: Best.
-/
import Derived.Test.YtlkfcbdbieenhaaCropB5
import Derived.Test.YtlkfcbdbieenhaaCropW9
namespace Go.Proofs.Ytlkfcbdbieenhaa
open Go.RowKit

/-- The blocks that the table tells, from a place on. -/
def bwF (T : Nat → Rs) (s3 : Int) (n : Nat) : Nat → Nat → List Bl
  | 0, _ => []
  | k + 1, p => if 0 < (T p).2.1 then ((T p).2.2.1, (T p).2.2.2) :: bwF T s3 n k (min ((T p).2.2.2 + s3) n).toNat else []
theorem Own.aside {α : Type} {enc : α → List Value} {c : Nat} {e : TypeId} {base : Nat} {w : World} {A : Option Addr} {n cap : Nat} {xs : List α} (h : Own enc c e base w A n cap xs) {p : Addr} (hp : A.map (·.block) ≠ some p.block) (u : Value) : Own enc c e base (w.setCell p u) A n cap xs :=
  h.kept (grown_set w p u) (.inr hp)
theorem bwF_end {T : Nat → Rs} {s3 : Int} {n p : Nat} (h : ¬ 0 < (T p).2.1) : ∀ k, bwF T s3 n k p = []
  | 0 => rfl
  | k + 1 => by unfold bwF; rw [if_neg h]
theorem bwF_step {T : Nat → Rs} {s3 : Int} {n p : Nat} (h : 0 < (T p).2.1) (k : Nat) : bwF T s3 n (k + 1) p = ((T p).2.2.1, (T p).2.2.2) :: bwF T s3 n k (min ((T p).2.2.2 + s3) n).toNat := by
  show (if 0 < (T p).2.1 then _ else _) = _
  rw [if_pos h]
/-- What Best returns: the blocks, the total, the error. -/
def tabF (l : List St) (s1 s2 s3 : Int) : Nat → Rs := tblF (wF l) s1 s2 s3 (wF l).length
def bestL (l : List St) (s1 s2 s3 : Int) : List Bl := if checkF l (s1, s2, s3) = 0 then bwF (tabF l s1 s2 s3) s3 (wF l).length ((wF l).length + 1) 0 else []
def bestT (l : List St) (s1 s2 s3 : Int) : Int := if checkF l (s1, s2, s3) = 0 then (tabF l s1 s2 s3 0).1 else 0
def lenV : Value → Nat
  | .slice _ n _ => n
  | _ => 0
def GivesBest (l : List St) (s1 s2 s3 : Int) (w : World) (e : Ending) (w' : World) : Prop :=
  ∃ A n cap, e = .returned (.tuple #[.slice A n cap, .int .i64 (bestT l s1 s2 s3), .int .i64 (checkF l (s1, s2, s3))]) ∧ Own eII 2 49 w.heap.size w' A n cap (bestL l s1 s2 s3) ∧ n ≤ 3000 ∧ Below w.heap.size w w'

set_option maxRecDepth 100000 in
set_option maxHeartbeats 16000000 in
theorem best_any (A : Option Addr) (n cap B : Nat) (l : List St) (s1 s2 s3 : Int) (w : World) (h : Sl eII 2 w B A n l) (hB : B ≤ w.heap.size) (hn : n ≤ 1000000) :
    Calls Try.prog 15 #[.slice A n cap, .agg #[.int .i64 s1, .int .i64 s2, .int .i64 s3]] w (GivesBest l s1 s2 s3 w) := by
  have hlen := h.len
  have b0 : Below w.heap.size w (w.alloc (.cells #[.int .i64 s1, .int .i64 s2, .int .i64 s3] 24)) := ba (Below.refl _ _)
  have k0 : Bk (w.alloc (.cells #[.int .i64 s1, .int .i64 s2, .int .i64 s3] 24)) w.heap.size 24 #[.int .i64 s1, .int .i64 s2, .int .i64 s3] := Bk.newAt w _ _ _ rfl
  have CK := Lib.hid (check_any A n cap B l s1 s2 s3 _ (h.below (b0.mono hB)) (Nat.le_trans hB b0.size) hn)
  have B0 := Lib.hid b0
  have K0 := Lib.hid k0
  clear b0 k0
  by_cases hc : checkF l (s1, s2, s3) = 0
  · have hok := checkF_ok hc
    have HC := Lib.hid hc
    have HL := Lib.hid (show bestL l s1 s2 s3 = bwF (tabF l s1 s2 s3) s3 (wF l).length ((wF l).length + 1) 0 from if_pos hc)
    have HT := Lib.hid (show bestT l s1 s2 s3 = (tabF l s1 s2 s3 0).1 from if_pos hc)
    have hwl := wF_len l hok.2.1
    have htb := tblF_ok (s1 := s1) (s2 := s2) (wF_in hok.2.1) hok.2.2.2.2.2.2.1 (wF l).length (Nat.le_refl _)
    generalize hN : (wF l).length = N at *
    have hN3 : N ≤ 3000 := by omega
    have HWL := Lib.hid hwl
    have RT := Lib.hid (fun W A5 n5 cap5 (hs : Sl eI 1 W W.heap.size A5 n5 (wF l)) (h5 : n5 = N) => show Calls Try.prog 49 #[.agg #[.int .i64 s1, .int .i64 s2, .int .i64 s3, .slice A5 n5 cap5]] W fun e w' => ∃ g, e = .returned (.slice (some ⟨g, 0, none⟩) (N + 1) (N + 1)) ∧ Bk w' g 113 (rowA (tabF l s1 s2 s3) (N + 1)) ∧ W.heap.size ≤ g ∧ Below W.heap.size W w' from by
      subst h5
      have := rests_any s1 s2 s3 A5 n5 cap5 W.heap.size (wF l) W hs (Nat.le_refl _) (by omega) (by omega) hN3 (wF_in hok.2.1)
      unfold tabF
      rw [hN]
      exact this)
    have HTB := Lib.hid (show ∀ i, i ≤ N → okR N i (tabF l s1 s2 s3 i) from fun i hi => by unfold tabF; rw [hN]; exact htb i hi)
    clear hwl htb hN hc
    generalize tabF l s1 s2 s3 = T at *
    obtain ⟨⟨r1, r2, r3, r4⟩, hr⟩ : ∃ r : Rs, T 0 = r := ⟨_, rfl⟩
    have HR := Lib.hid hr
    clear hr
    go_enter Try.func15, Try.ntmps15
    go_upto_region 5 with (first
      | (go_at_call 24; refine CK.out.mono ?_; rintro e w1 ⟨rfl, hb1⟩; rw [HC.out]; have bl1 := B0.out.trans (hb1.mono B0.out.size); have kk := K0.out.below hb1 K0.out.lt; obtain ⟨⟨c1, c2, c3⟩, _⟩ := kk.c3)
      | (go_at_call 48; refine (newBoule_any A n cap B l s1 s2 s3 w1 (h.below (bl1.mono hB)) (Nat.le_trans hB bl1.size) (by omega) hok.2.1).mono ?_; rintro e w2 ⟨A5, n5, cap5, rfl, hown, hb2⟩; have bl2 := bl1.trans (hb2.mono bl1.size); have hn5 : N = n5 := (by (have h9 := hown.len; have h8 := wF_len l hok.2.1; have h7 := HWL.out; omega)); subst hn5; have HOW := Lib.hid (hown.sl enc1)))
    have kb2 := Bk.newAt w2 #[.int .i64 s1, .int .i64 s2, .int .i64 s3, .slice A5 N cap5] 108 w2.heap.size rfl
    obtain ⟨⟨z0, z1, z2, z3⟩, -⟩ := kb2.c4
    have hl2 := kb2.lt
    go_upto_region 7 with (go_at_call 49; refine (RT.out (w2.alloc (.cells #[.int .i64 s1, .int .i64 s2, .int .i64 s3, .slice A5 N cap5] 108)) A5 N cap5 ((HOW.out.below (ba (Below.refl _ _))).more (by simp)) rfl).mono ?_; rintro e w3 ⟨gR, rfl, kR, hgR, hb3⟩; have bl3 := (ba (o := .cells #[.int .i64 s1, .int .i64 s2, .int .i64 s3, .slice A5 N cap5] 108) bl2).trans (hb3.mono (ba (o := .cells #[.int .i64 s1, .int .i64 s2, .int .i64 s3, .slice A5 N cap5] 108) bl2).size); have kb3 := (Bk.newAt w2 #[.int .i64 s1, .int .i64 s2, .int .i64 s3, .slice A5 N cap5] 108 w2.heap.size rfl).below hb3 (by simp); have e0 := kR.cell (rowA_at T (N + 1) 0 (by omega) 0 _ rfl); have e1 := kR.cell (rowA_at T (N + 1) 0 (by omega) 1 _ rfl); have e2 := kR.cell (rowA_at T (N + 1) 0 (by omega) 2 _ rfl); have e3 := kR.cell (rowA_at T (N + 1) 0 (by omega) 3 _ rfl); rw [HR.out] at e0 e1 e2 e3; simp only [Nat.zero_mul, Nat.zero_add, Nat.add_zero] at e0 e1 e2 e3)
    have KR := Lib.hid kR
    have KB3 := Lib.hid kb3
    have hlR := kR.lt
    have hlb := kb3.lt
    have BL3 := Lib.hid bl3
    have hbk3 : w.heap.size ≤ w3.heap.size := bl3.size
    clear kR kb3 e0 e1 e2 e3 bl3 bl2 bl1 hb3 hb2 hb1 hown kk kb2 c1 c2 c3 z0 z1 z2 z3 hgR
    go_wp2_with fail
    go_loopw [4, 10] (fun a b wr => ∃ (pre : List Bl) (A' : Option Addr) (n' cap' gr p : Nat) (x1 x2 x3 x4 : Int), a = .slice A' n' cap' ∧ b = .pointer (some ⟨gr, 0, none⟩) ∧ Own eII 2 49 w3.heap.size wr A' n' cap' pre ∧ Bk wr gr 113 #[.int .i64 x1, .int .i64 x2, .int .i64 x3, .int .i64 x4] ∧ T p = (x1, x2, x3, x4) ∧ some gr ≠ A'.map (·.block) ∧ n' ≤ p ∧ p ≤ N ∧ w3.heap.size ≤ gr ∧ Below w3.heap.size w3 wr ∧ pre ++ bwF T s3 N (N + 1 - n') p = bwF T s3 N (N + 1) 0) (fun a _ _ => N + 1 - lenV a)
    case atStart => exact ⟨[], none, 0, 0, w3.heap.size, 0, r1, r2, r3, r4, rfl, rfl, Own.nil, Bk.newAt _ _ _ _ rfl, HR.out, by simp, Nat.le_refl _, Nat.zero_le _, Nat.le_refl _, ba (Below.refl _ _), rfl⟩
    case round =>
      obtain ⟨pre, A', n', cap', gr, p, x1, x2, x3, x4, rfl, rfl, hown, kg, hTp, hne, hnp, hpN, hgr, hbl, hpre⟩ := hrel
      obtain ⟨⟨c0, c1, c2, c3⟩, -⟩ := kg.c4
      have HO := Lib.hid hown
      have HKG := Lib.hid kg
      have HTP := Lib.hid hTp
      have HNE := Lib.hid hne
      have HBL := Lib.hid hbl
      have HPR := Lib.hid hpre
      have hlg := kg.lt
      have kRr := KR.out.below hbl hlR
      have kbr := KB3.out.below hbl hlb
      clear hown kg hTp hne hbl hpre
      by_cases hm : 0 < x2
      · have hok2 := HTB.out p hpN
        rw [HTP.out] at hok2
        obtain ⟨o1, o2, o3, o4, o5⟩ := hok2
        have o6 := o5 hm
        simp only at o1 o2 o3 o4 o6
        obtain ⟨q, hq⟩ : ∃ q : Nat, min (x4 + s3) N = (q : Int) := ⟨(min (x4 + s3) N).toNat, by omega⟩
        have hq2 : p < q ∧ q ≤ N := by omega
        obtain ⟨⟨y1, y2, y3, y4⟩, hy⟩ : ∃ y : Rs, T q = y := ⟨_, rfl⟩
        have BH := Lib.hid (fun W => hq ▸ behind_any s1 s2 s3 A5 N cap5 x3 x4 W (by omega) (by omega))
        unfold vB at BH
        have HY := Lib.hid hy
        have HQN := Lib.hid (show bwF T s3 N (N + 1 - n') p = (x3, x4) :: bwF T s3 N (N + 1 - (n' + 1)) q from by
          rw [show N + 1 - n' = (N + 1 - (n' + 1)) + 1 from by omega, bwF_step (by rw [HTP.out]; exact hm), HTP.out]
          simp only [hq, Int.toNat_natCast])
        have hsl := Sl.new enc2 wr 49 wr.heap.size rfl [(x3, x4)] #[.int .i64 x3, .int .i64 x4] (by simp [maxLen]) rfl
        have e0 := kRr.cell (rowA_at T (N + 1) q (by omega) 0 _ rfl)
        have hm63 : n' + 1 ≤ maxLen := by unfold maxLen; omega
        have hszr := HBL.out.size
        have hbyt : (n' + 1) * 16 ≤ 140737488355328 := by omega
        have hqi : (q : Int) < ((N + 1 : Nat) : Int) := by omega
        have hlr2 := kRr.lt
        have hlb2 := kbr.lt
        clear hq hy e0 o1 o2 o3 o4 o5 o6
        go_wp2_with (first
          | (at_builtin; refine wpList_append_any (base := w3.heap.size) enc2 elBl rfl _ _ rfl A' n' cap' pre rfl (HO.out.alloc _) (wr.heap.size + 1) (some ⟨wr.heap.size, 0, none⟩) 1 1 [(x3, x4)] rfl hsl hm63 (by omega) (by simp; omega) ?_; intro A3 cap3 wA hown3 hgrow3 hat3; have kgA := (HKG.out.alloc (.cells #[.int .i64 x3, .int .i64 x4] 49)).grown hgrow3 HNE.out; have kRA := (kRr.alloc (.cells #[.int .i64 x3, .int .i64 x4] 49)).app (HO.out.alloc _) hgrow3 hlR; have kbA := (kbr.alloc (.cells #[.int .i64 x3, .int .i64 x4] 49)).app (HO.out.alloc _) hgrow3 hlb; have blA := belApp (ba (o := .cells #[.int .i64 x3, .int .i64 x4] 49) HBL.out) (HO.out.alloc _) hgrow3 (by simp; omega) (Nat.le_refl _); obtain ⟨⟨a0, a1, a2, a3⟩, -⟩ := kgA.c4; obtain ⟨⟨b0, b1, b2, b3⟩, -⟩ := kbA.c4; have hlA := kgA.lt; have hlA2 := kRA.lt; have hlA3 := kbA.lt; have hszA := blA.size; have HO3 := Lib.hid hown3; have HRA := Lib.hid kRA; have HBA := Lib.hid blA; have HKA := Lib.hid kgA; clear hown3 hgrow3 hat3 kgA kRA kbA blA c0 c1 c2 c3)
          | (go_at_call 50; refine (BH.out _).mono ?_; rintro e w5 ⟨rfl, hb5⟩; have kn5 := (Bk.newAt wA #[.int .i64 x1, .int .i64 x2, .int .i64 x3, .int .i64 x4] 113 wA.heap.size rfl).below hb5 (by simp); obtain ⟨⟨m0, m1, m2, m3⟩, ⟨g0, g1, g2, g3⟩⟩ := kn5.c4; have kR5 := (HRA.out.alloc (.cells #[.int .i64 x1, .int .i64 x2, .int .i64 x3, .int .i64 x4] 113)).below hb5 (by simp; omega); have e0 := kR5.cell (rowA_at T (N + 1) q (by omega) 0 _ rfl); have e1 := kR5.cell (rowA_at T (N + 1) q (by omega) 1 _ rfl); have e2 := kR5.cell (rowA_at T (N + 1) q (by omega) 2 _ rfl); have e3 := kR5.cell (rowA_at T (N + 1) q (by omega) 3 _ rfl); rw [HY.out] at e0 e1 e2 e3; simp only [Nat.add_zero] at e0 e1 e2 e3; have HK5 := Lib.hid kn5; have HO5 := Lib.hid ((HO3.out.alloc (.cells #[.int .i64 x1, .int .i64 x2, .int .i64 x3, .int .i64 x4] 113)).below hb5); have HB5 := Lib.hid (thru (ba (o := .cells #[.int .i64 x1, .int .i64 x2, .int .i64 x3, .int .i64 x4] 113) HBA.out) hb5); have hs5 := hb5.size; clear kn5 kR5 hb5))
        have hA3 : A3.map (·.block) ≠ some wA.heap.size := fun e => by have := HO3.out.lt e; omega
        go_roundw
        case rel =>
          refine ⟨pre ++ [(x3, x4)], A3, n' + 1, cap3, wA.heap.size, q, y1, y2, y3, y4, rfl, rfl, (((HO5.out.aside hA3 _).aside hA3 _).aside hA3 _).aside hA3 _, (((HK5.out.put 0 _ #[.int .i64 y1, .int .i64 x2, .int .i64 x3, .int .i64 x4] rfl).put 1 _ #[.int .i64 y1, .int .i64 y2, .int .i64 x3, .int .i64 x4] rfl).put 2 _ #[.int .i64 y1, .int .i64 y2, .int .i64 y3, .int .i64 x4] rfl).put 3 _ #[.int .i64 y1, .int .i64 y2, .int .i64 y3, .int .i64 y4] rfl, HY.out, fun e => hA3 e.symm, by omega, by omega, by omega, bs (bs (bs (bs HB5.out hszA) hszA) hszA) hszA, ?_⟩
          rw [List.append_assoc, List.singleton_append, ← HQN.out]
          exact HPR.out
        case measure => simp [lenV]; omega
      · have hmd : decide (0 < x2) = false := by simpa using hm
        have e0 := kRr.cell (rowA_at T (N + 1) 0 (by omega) 0 _ rfl)
        rw [HR.out] at e0
        simp only [Nat.zero_mul, Nat.add_zero] at e0
        have hlr2 := kRr.lt
        have HG := Lib.hid (show ∀ W, Below w.heap.size w W → Own eII 2 49 w3.heap.size W A' n' cap' pre → GivesBest l s1 s2 s3 w (.returned (.tuple #[.slice A' n' cap', .int .i64 r1, .int .i64 0])) W from fun W hb ho => ⟨A', n', cap', by rw [HT.out, HC.out, HR.out], by
          rw [HL.out, ← HPR.out, bwF_end (by rw [HTP.out]; exact hm), List.append_nil]
          exact ho.mono hbk3, by omega, hb⟩)
        go_wp2
        go_quiet (fail)
        go_wp2
        refine bodyPost_ret (v := .tuple #[.slice A' n' cap', .int .i64 r1, .int .i64 0]) (by simp [results, Try.results15, go_sem]) rfl (HG.out _ ?_ HO.out)
        exact below_drewN (BL3.out.trans (HBL.out.mono hbk3)) _
  · have HL := Lib.hid (show bestL l s1 s2 s3 = [] from if_neg hc)
    have HT := Lib.hid (show bestT l s1 s2 s3 = 0 from if_neg hc)
    have HG := Lib.hid (show ∀ W, Below w.heap.size w W → GivesBest l s1 s2 s3 w (.returned (.tuple #[.slice none 0 0, .int .i64 0, .int .i64 (checkF l (s1, s2, s3))])) W from fun W hb => ⟨none, 0, 0, by rw [HT.out], by rw [HL.out]; exact Own.nil, by omega, hb⟩)
    have hd : (checkF l (s1, s2, s3) != 0) = true := by simpa using hc
    have hd2 : decide (checkF l (s1, s2, s3) = 0) = false := by simpa using hc
    generalize checkF l (s1, s2, s3) = z at *
    clear hc
    go_enter Try.func15, Try.ntmps15
    go_wp2_with (go_at_call 24; refine CK.out.mono ?_; rintro e w1 ⟨rfl, hb1⟩)
    refine bodyPost_ret (v := .tuple #[.slice none 0 0, .int .i64 0, .int .i64 z]) (by simp [results, Try.results15, go_sem]) rfl (HG.out _ (B0.out.trans (hb1.mono B0.out.size)))
end Go.Proofs.Ytlkfcbdbieenhaa
