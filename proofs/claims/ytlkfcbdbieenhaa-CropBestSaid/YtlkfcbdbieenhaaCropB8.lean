/-
  Walks of chapter 7, the best cropping: Bounds.
-/
import Derived.Test.YtlkfcbdbieenhaaCropB7
namespace Go.Proofs.Ytlkfcbdbieenhaa
open Go.RowKit

/-- The totals from each place on. -/
def bndL (l : List St) (s1 s2 s3 : Int) : List Int := if checkF l (s1, s2, s3) = 0 then (List.range ((wF l).length + 1)).map fun i => (tabF l s1 s2 s3 i).1 else []
def GivesBounds (l : List St) (s1 s2 s3 : Int) (w : World) (e : Ending) (w' : World) : Prop :=
  ∃ A n cap, e = .returned (.tuple #[.slice A n cap, .int .i64 (checkF l (s1, s2, s3))]) ∧ Own eI 1 3 w.heap.size w' A n cap (bndL l s1 s2 s3) ∧ n ≤ 3001 ∧ Below w.heap.size w w'

set_option maxRecDepth 100000 in
set_option maxHeartbeats 16000000 in
theorem bounds_any (A : Option Addr) (n cap B : Nat) (l : List St) (s1 s2 s3 : Int) (w : World) (h : Sl eII 2 w B A n l) (hB : B ≤ w.heap.size) (hn : n ≤ 1000000) :
    Calls Try.prog 33 #[.slice A n cap, .agg #[.int .i64 s1, .int .i64 s2, .int .i64 s3]] w (GivesBounds l s1 s2 s3 w) := by
  have hlen := h.len
  have b0 : Below w.heap.size w (w.alloc (.cells #[.int .i64 s1, .int .i64 s2, .int .i64 s3] 24)) := ba (Below.refl _ _)
  have k0 : Bk (w.alloc (.cells #[.int .i64 s1, .int .i64 s2, .int .i64 s3] 24)) w.heap.size 24 #[.int .i64 s1, .int .i64 s2, .int .i64 s3] := Bk.newAt w _ _ _ rfl
  have CK := Lib.hid (check_any A n cap B l s1 s2 s3 _ (h.below (b0.mono hB)) (Nat.le_trans hB b0.size) hn)
  have B0 := Lib.hid b0
  have K0 := Lib.hid k0
  clear b0 k0
  by_cases hc : checkF l (s1, s2, s3) = 0
  · have hok := checkF_ok hc
    have HC := Lib.hid hc
    have HL := Lib.hid (show bndL l s1 s2 s3 = (List.range ((wF l).length + 1)).map fun i => (tabF l s1 s2 s3 i).1 from if_pos hc)
    have hwl := wF_len l hok.2.1
    generalize hN : (wF l).length = N at *
    have hN3 : N ≤ 3000 := by omega
    have HWL := Lib.hid hwl
    have RT := Lib.hid (fun W A5 n5 cap5 (hs : Sl eI 1 W W.heap.size A5 n5 (wF l)) (h5 : n5 = N) => show Calls Try.prog 49 #[.agg #[.int .i64 s1, .int .i64 s2, .int .i64 s3, .slice A5 n5 cap5]] W fun e w' => ∃ g, e = .returned (.slice (some ⟨g, 0, none⟩) (N + 1) (N + 1)) ∧ Bk w' g 113 (rowA (tabF l s1 s2 s3) (N + 1)) ∧ W.heap.size ≤ g ∧ Below W.heap.size W w' from by
      subst h5
      have := rests_any s1 s2 s3 A5 n5 cap5 W.heap.size (wF l) W hs (Nat.le_refl _) (by omega) (by omega) hN3 (wF_in hok.2.1)
      unfold tabF
      rw [hN]
      exact this)
    clear hwl hN hc
    generalize tabF l s1 s2 s3 = T at *
    go_enter Try.func33, Try.ntmps33
    go_upto_region 5 with (go_at_call 24; refine CK.out.mono ?_; rintro e w1 ⟨rfl, hb1⟩; rw [HC.out]; have bl1 := B0.out.trans (hb1.mono B0.out.size); have kk := K0.out.below hb1 K0.out.lt; obtain ⟨⟨c1, c2, c3⟩, _⟩ := kk.c3)
    go_wp2_with (first
      | (go_at_call 48; refine (newBoule_any A n cap B l s1 s2 s3 w1 (h.below (bl1.mono hB)) (Nat.le_trans hB bl1.size) (by omega) hok.2.1).mono ?_; rintro e w2 ⟨A5, n5, cap5, rfl, hown, hb2⟩; have bl2 := bl1.trans (hb2.mono bl1.size); have hn5 : N = n5 := (by (have h9 := hown.len; have h8 := wF_len l hok.2.1; have h7 := HWL.out; omega)); subst hn5; have HOW := Lib.hid (hown.sl enc1))
      | (go_at_call 49; refine (RT.out w2 A5 N cap5 HOW.out rfl).mono ?_; rintro e w3 ⟨gR, rfl, kR, hgR, hb3⟩; have bl3 := bl2.trans (hb3.mono bl2.size)))
    have KR := Lib.hid kR
    have hlR := kR.lt
    have BL3 := Lib.hid bl3
    have hbk3 : w.heap.size ≤ w3.heap.size := bl3.size
    clear kR bl3 bl2 bl1 hb3 hb2 hb1 hown kk c1 c2 c3 hgR
    go_loopw [7, 21] (fun a v wr => ∃ (k : Nat) (A' : Option Addr) (n' cap' : Nat), k ≤ N + 1 ∧ v = .int .i64 k ∧ a = .slice A' n' cap' ∧ Own eI 1 3 w3.heap.size wr A' n' cap' ((List.range k).map fun i => (T i).1) ∧ Below w3.heap.size w3 wr) (fun _ v _ => N + 1 - (intOf v).toNat)
    case atStart => exact ⟨0, none, 0, 0, Nat.zero_le _, rfl, rfl, Own.nil, Below.refl _ _⟩
    case round =>
      obtain ⟨k, A', n', cap', hk, rfl, rfl, hown, hbl⟩ := hrel
      have HO := Lib.hid hown
      have HBL := Lib.hid hbl
      have hnk : n' = k := by have := hown.len; simp at this; exact this.symm
      subst hnk
      have kRr := KR.out.below hbl hlR
      clear hown hbl
      by_cases hlt : n' < N + 1
      · obtain ⟨⟨y1, y2, y3, y4⟩, hy⟩ : ∃ y : Rs, T n' = y := ⟨_, rfl⟩
        have e0 := kRr.cell (rowA_at T (N + 1) n' hlt 0 _ rfl)
        have e1 := kRr.cell (rowA_at T (N + 1) n' hlt 1 _ rfl)
        have e2 := kRr.cell (rowA_at T (N + 1) n' hlt 2 _ rfl)
        have e3 := kRr.cell (rowA_at T (N + 1) n' hlt 3 _ rfl)
        rw [hy] at e0 e1 e2 e3
        simp only [Nat.add_zero] at e0 e1 e2 e3
        have HS := Lib.hid (show (List.range (n' + 1)).map (fun i => (T i).1) = (List.range n').map (fun i => (T i).1) ++ [y1] by rw [List.range_succ, List.map_append, List.map_singleton, hy])
        have hm63 : n' + 1 ≤ maxLen := by unfold maxLen; omega
        have hlr2 := kRr.lt
        have hszr := HBL.out.size
        have hsl := Sl.new enc1 (wr.alloc (.cells #[.int .i64 y1, .int .i64 y2, .int .i64 y3, .int .i64 y4] 113)) 3 (wr.heap.size + 1) (by simp) [y1] #[.int .i64 y1] (by simp [maxLen]) rfl
        clear hy kRr
        go_wp2_with (at_builtin; refine wpList_append_any (base := w3.heap.size) enc1 elI rfl _ _ rfl A' n' cap' _ rfl ((HO.out.alloc _).alloc _) (wr.heap.size + 1 + 1) (some ⟨wr.heap.size + 1, 0, none⟩) 1 1 [y1] rfl hsl hm63 (by omega) (by simp; omega) ?_; intro A3 cap3 wA hown3 hgrow3 hat3; have HO3 := Lib.hid hown3; have HBA := Lib.hid (belApp (ba (o := .cells #[.int .i64 y1] 3) (ba (o := .cells #[.int .i64 y1, .int .i64 y2, .int .i64 y3, .int .i64 y4] 113) HBL.out)) ((HO.out.alloc _).alloc _) hgrow3 (by simp; omega) (Nat.le_refl _)); clear hown3 hgrow3 hat3)
        go_roundw
        case rel => exact ⟨n' + 1, A3, n' + 1, cap3, by omega, by go_num, rfl, by rw [HS.out]; exact HO3.out, HBA.out⟩
        case measure => simp [intOf]; omega
      · obtain rfl : n' = N + 1 := by omega
        have HG := Lib.hid (show ∀ W, Below w.heap.size w W → Own eI 1 3 w3.heap.size W A' (N + 1) cap' ((List.range (N + 1)).map fun i => (T i).1) → GivesBounds l s1 s2 s3 w (.returned (.tuple #[.slice A' (N + 1) cap', .int .i64 0])) W from fun W hb ho => ⟨A', N + 1, cap', by rw [HC.out], by rw [HL.out]; exact ho.mono hbk3, by omega, hb⟩)
        go_wp2
        refine bodyPost_ret (v := .tuple #[.slice A' (N + 1) cap', .int .i64 0]) (by simp [results, Try.results33, go_sem]) rfl (HG.out _ (BL3.out.trans (HBL.out.mono hbk3)) HO.out)
  · have HL := Lib.hid (show bndL l s1 s2 s3 = [] from if_neg hc)
    have HG := Lib.hid (show ∀ W, Below w.heap.size w W → GivesBounds l s1 s2 s3 w (.returned (.tuple #[.slice none 0 0, .int .i64 (checkF l (s1, s2, s3))])) W from fun W hb => ⟨none, 0, 0, rfl, by rw [HL.out]; exact Own.nil, by omega, hb⟩)
    have hd : (checkF l (s1, s2, s3) != 0) = true := by simpa using hc
    have hd2 : decide (checkF l (s1, s2, s3) = 0) = false := by simpa using hc
    generalize checkF l (s1, s2, s3) = z at *
    clear hc
    go_enter Try.func33, Try.ntmps33
    go_wp2_with (go_at_call 24; refine CK.out.mono ?_; rintro e w1 ⟨rfl, hb1⟩)
    refine bodyPost_ret (v := .tuple #[.slice none 0 0, .int .i64 z]) (by simp [results, Try.results33, go_sem]) rfl (HG.out _ (B0.out.trans (hb1.mono B0.out.size)))
end Go.Proofs.Ytlkfcbdbieenhaa
