/-
  The law of chapter 7 on values: CropValues, whole.
-/
import Derived.Test.YtlkfcbdbieenhaaCropWM0
namespace Go.Proofs.Ytlkfcbdbieenhaa
open Go.RowKit

set_option maxRecDepth 100000 in
set_option maxHeartbeats 16000000 in
theorem values_any (A : Option Addr) (n cap B : Nat) (l : List St) (s1 s2 s3 : Int) (A2 : Option Addr) (n2 cap2 B2 : Nat) (bs : List Bl) (w : World) (h : Sl eII 2 w B A n l) (hB : B ≤ w.heap.size)
    (h2 : Sl eII 2 w B2 A2 n2 bs) (hB2 : B2 ≤ w.heap.size) :
    Calls Try.prog 6 #[.slice A n cap, .agg #[.int .i64 s1, .int .i64 s2, .int .i64 s3], .slice A2 n2 cap2] w fun e w' => e = .returned (.bool true) ∧ Below w.heap.size w w' := by
  have hlen := h.len
  have hlen2 := h2.len
  have KN := Lib.hid (fun W => known_any W)
  have V0 := Lib.hid (show VL w (w.alloc (.cells #[.int .i64 s1, .int .i64 s2, .int .i64 s3] 24)) s1 s2 s3 from ⟨Bk.newAt w _ _ _ rfl, ba (Below.refl _ _)⟩)
  by_cases g1 : 70 < n
  · have hi : (70 : Int) < n := by omega
    go_enter Try.func6, Try.ntmps6
    go_wp2_with (go_at_call 14; refine (KN.out _).mono ?_; rintro e w1 ⟨rfl, hb1⟩)
    go_ret
    exact ⟨rfl, thru V0.out.2 hb1⟩
  have hi : decide ((70 : Int) < n) = false := by simp; omega
  by_cases g2 : 40 < n2
  · have hi2 : (40 : Int) < n2 := by omega
    go_enter Try.func6, Try.ntmps6
    go_wp2_with (go_at_call 14; refine (KN.out _).mono ?_; rintro e w1 ⟨rfl, hb1⟩)
    go_ret
    exact ⟨rfl, thru V0.out.2 hb1⟩
  have hi2 : decide ((40 : Int) < n2) = false := by simp; omega
  have CK := Lib.hid (fun W (hb : Below w.heap.size w W) => refCheck_any A n cap B l s1 s2 s3 W (h.below (hb.mono hB)) (Nat.le_trans hB hb.size) (by omega))
  have HE0 := Lib.hid (show ∃ E, checkF l (s1, s2, s3) = E from ⟨_, rfl⟩)
  obtain ⟨E, hE⟩ := HE0.out
  rw [hE] at CK
  have HE := Lib.hid hE
  clear HE0 hE
  have main : (E = 0 → ¬ 400 < lenF l) → Calls Try.prog 6 #[.slice A n cap, .agg #[.int .i64 s1, .int .i64 s2, .int .i64 s3], .slice A2 n2 cap2] w fun e w' => e = .returned (.bool true) ∧ Below w.heap.size w w' := by
    intro hlong
    have OW := Lib.hid (fun W (hb : Below w.heap.size w W) => own_any A n cap B l W (h.below (hb.mono hB)) (Nat.le_trans hB hb.size) (by omega))
    obtain ⟨⟨c1, c2, c3⟩, -⟩ := V0.out.1.c3
    by_cases h0 : E = 0
    · have hok := checkF_ok (HE.out.trans h0)
      have LN := Lib.hid (fun W (hb : Below w.heap.size w W) => refLength_any A n cap B l W (h.below (hb.mono hB)) (by omega) hok.2.1)
      have g4 := hlong h0
      have g5 : decide (400 < lenF l) = false := by simpa using g4
      subst h0
      clear hok hlong g4
      go_enter Try.func6, Try.ntmps6
      go_upto_region 3 with (first
        | (go_at_call 12; refine (CK.out _ V0.out.2).mono ?_; rintro e w1 ⟨rfl, hb1⟩; have vl1 := V0.out.below hb1)
        | (go_at_call 13; refine (LN.out _ vl1.2).mono ?_; rintro e w2 ⟨rfl, rfl⟩))
      go_cut [7] (fun s7 wx => ∃ (A3 : Option Addr) (cap3 : Nat), s7 = .slice A3 n cap3 ∧ Sl eII 2 wx wx.heap.size A3 n l ∧ VL w wx s1 s2 s3)
      case first =>
        go_wp2_with (go_at_call 16; refine (OW.out _ vl1.2).mono ?_; rintro e w2 ⟨A3, n3, cap3, rfl, hown3, hb2⟩; have hsl3 := hown3.toSl enc2; obtain rfl : n3 = n := (by (have := hsl3.len; omega)); have vl3 := vl1.below hb2)
        go_meet
        exact ⟨A3, cap3, rfl, hsl3, vl3⟩
      case rest =>
        rename_i hK
        obtain ⟨A3, cap3, rfl, hsl3, vl3⟩ := hcut
        exact hK _ _ (values_mid A n cap B l s1 s2 s3 A2 n2 cap2 B2 bs w h hB (by omega) h2 hB2 (by omega) _ vl3 A3 cap3 hsl3 _ _ _ _ _ _ _ _ _ _ _ _ _ _ _ _ _ _ _ _ _ _ _ _ _ _ _ _ _ _ _ _ _ _ _ _ _ _ _ _ _ _ _ _ _ _ _ _ _ _ _ _ _ _ _ _ _ _ _ _ _ _ _ _ _ _ _ _ _ _ _ _ _ _ _ _ _ _ _ _ _ _ _ _ _ _ _ _ _ _ _ _ _ _ _ _ _ _ _ _ _ _ _ _ _ _ _ _ _ _ _ _ _ _ _ _ _ _ _ _ _ _ _ _ _ _ _ _ _ _ _ _ _ _ _ _ _ _ _ _ _ _ _ _ _ _ _ _ _ _ _ _ _ _ _ _ _ _ _ _ _ _ _ _ _ _ _ _ _ _ _ _ _ _ _ _ _ _ _ _ _ _ _ _ _ _ _ _ _ _ _)
    · have e1 : (E == 0) = false := by simpa using h0
      have e2 : decide (E = 0) = false := by simpa using h0
      clear hlong
      go_enter Try.func6, Try.ntmps6
      go_upto_region 3 with (go_at_call 12; refine (CK.out _ V0.out.2).mono ?_; rintro e w1 ⟨rfl, hb1⟩; have vl1 := V0.out.below hb1)
      go_cut [7] (fun s7 wx => ∃ (A3 : Option Addr) (cap3 : Nat), s7 = .slice A3 n cap3 ∧ Sl eII 2 wx wx.heap.size A3 n l ∧ VL w wx s1 s2 s3)
      case first =>
        go_wp2_with (go_at_call 16; refine (OW.out _ vl1.2).mono ?_; rintro e w2 ⟨A3, n3, cap3, rfl, hown3, hb2⟩; have hsl3 := hown3.toSl enc2; obtain rfl : n3 = n := (by (have := hsl3.len; omega)); have vl3 := vl1.below hb2)
        go_meet
        exact ⟨A3, cap3, rfl, hsl3, vl3⟩
      case rest =>
        rename_i hK
        obtain ⟨A3, cap3, rfl, hsl3, vl3⟩ := hcut
        exact hK _ _ (values_mid A n cap B l s1 s2 s3 A2 n2 cap2 B2 bs w h hB (by omega) h2 hB2 (by omega) _ vl3 A3 cap3 hsl3 _ _ _ _ _ _ _ _ _ _ _ _ _ _ _ _ _ _ _ _ _ _ _ _ _ _ _ _ _ _ _ _ _ _ _ _ _ _ _ _ _ _ _ _ _ _ _ _ _ _ _ _ _ _ _ _ _ _ _ _ _ _ _ _ _ _ _ _ _ _ _ _ _ _ _ _ _ _ _ _ _ _ _ _ _ _ _ _ _ _ _ _ _ _ _ _ _ _ _ _ _ _ _ _ _ _ _ _ _ _ _ _ _ _ _ _ _ _ _ _ _ _ _ _ _ _ _ _ _ _ _ _ _ _ _ _ _ _ _ _ _ _ _ _ _ _ _ _ _ _ _ _ _ _ _ _ _ _ _ _ _ _ _ _ _ _ _ _ _ _ _ _ _ _ _ _ _ _ _ _ _ _ _ _ _ _ _ _ _ _ _)
  by_cases g3 : E = 0
  · have hok := checkF_ok (HE.out.trans g3)
    by_cases g4 : 400 < lenF l
    · have LN := Lib.hid (fun W (hb : Below w.heap.size w W) => refLength_any A n cap B l W (h.below (hb.mono hB)) (by omega) hok.2.1)
      subst g3
      clear hok main
      obtain ⟨⟨c1, c2, c3⟩, -⟩ := V0.out.1.c3
      go_enter Try.func6, Try.ntmps6
      go_wp2_with (first
        | (go_at_call 12; refine (CK.out _ V0.out.2).mono ?_; rintro e w1 ⟨rfl, hb1⟩; have bl1 := thru V0.out.2 hb1)
        | (go_at_call 13; refine (LN.out _ bl1).mono ?_; rintro e w2 ⟨rfl, rfl⟩)
        | (go_at_call 14; refine (KN.out _).mono ?_; rintro e w3 ⟨rfl, hb3⟩))
      go_ret
      exact ⟨rfl, thru bl1 hb3⟩
    · exact main fun _ => g4
  · exact main fun e => absurd e g3
end Go.Proofs.Ytlkfcbdbieenhaa
