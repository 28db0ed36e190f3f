/-
  The law of chapter 7 on grinding: CropGrinds, its beginning.
-/
import Derived.Test.YtlkfcbdbieenhaaCropG5
import Derived.Test.YtlkfcbdbieenhaaCropG2
namespace Go.Proofs.Ytlkfcbdbieenhaa
open Go.RowKit

set_option maxRecDepth 100000 in
set_option maxHeartbeats 16000000 in
theorem grinds_any (A : Option Addr) (n cap B : Nat) (l : List S3) (a b c d : Int) (w : World) (h : Sl eIII 3 w B A n l) (hB : B ≤ w.heap.size) :
    Calls Try.prog 7 #[.agg #[.int .i64 a, .int .i64 b, .int .i64 c], .slice A n cap, .int .i64 d] w fun e w' => e = .returned (.bool true) ∧ Below w.heap.size w w' := by
  have hlen := h.len
  have KN := Lib.hid (fun W => known_any W)
  have hg0 : GL w (w.alloc (.cells #[.int .i64 a, .int .i64 b, .int .i64 c] 40)) a b c := ⟨Bk.newAt w _ _ _ rfl, (Below.refl _ _).alloc (Nat.le_refl _) _⟩
  have G0 := Lib.hid hg0
  clear hg0
  by_cases g1 : 70 < n
  · have hi : (70 : Int) < n := by omega
    go_enter Try.func7, Try.ntmps7
    go_wp2_with (go_at_call 14; refine (KN.out _).mono ?_; rintro e w1 ⟨rfl, hb1⟩)
    go_ret
    exact ⟨rfl, G0.out.2.trans (hb1.mono G0.out.2.size)⟩
  · have hi : decide ((70 : Int) < n) = false := by simp; omega
    go_enter Try.func7, Try.ntmps7
    go_upto_region 3 with fail
    go_cut [7, 8, 9] (fun s7 s8 s9 wx => ∃ g : Nat, s7 = .int .i64 (grF a b c d).1 ∧ s8 = .pointer (some ⟨g, 0, none⟩) ∧ s9 = .int .i64 (grF a b c d).2.2.2 ∧ GL w wx a b c ∧ Bk wx g 38 #[.int .i64 (grF a b c d).2.1, .int .i64 (grF a b c d).2.2.1])
    case first =>
      have k3 := G0.out.1.c3
      obtain ⟨⟨c1, c2, c3⟩, _⟩ := k3
      go_wp2_with (go_at_call 23; refine (grind_any _ _ _ _ _).mono ?_; rintro e w1 ⟨rfl, hb1⟩; have gl := G0.out.below hb1; unfold grV)
      go_meet
      exact ⟨_, rfl, rfl, rfl, gl.below ((Below.refl _ _).alloc (Nat.le_refl _) _), Bk.newAt _ _ _ _ rfl⟩
    case rest =>
      obtain ⟨g, rfl, rfl, rfl, gl, kr⟩ := hcut
      generalize hwx : wc = wx at *
      clear hwx
      generalize hG : grF a b c d = G at *
      obtain ⟨gk, gp, gq, gr⟩ := G
      dsimp only at kr ⊢
      go_upto_block 0 with fail
      go_cut [7] (fun s7 wy => Below w.heap.size w wy)
      case first =>
        have RS := Lib.hid (fun W => refSlab_any a b c W)
        have hlt1 := gl.1.lt
        have hlt2 := kr.lt
        have gl2 := gl.2
        cases h1 : okS (a, b, c)
        · have H1 := Lib.hid h1
          have e : (gk, gp, gq, gr) = (0, 0, 0, 2) := by rw [← hG, grF, if_pos h1]
          injection e with e1 e2
          injection e2 with e2 e3
          injection e3 with e3 e4
          subst e1 e2 e3 e4
          obtain ⟨⟨c1, c2, c3⟩, _⟩ := gl.1.c3
          go_wp2_with (go_at_call 31; refine (RS.out _).mono ?_; rintro e w1 ⟨rfl, hb1⟩; simp only [H1.out]; obtain ⟨⟨r1, r2⟩, _⟩ := (kr.below hb1 hlt2).c2)
          go_meet
          exact gl2.trans (hb1.mono gl2.size)
        · have H1 := Lib.hid h1
          have hs := okS_t h1
          cases h2 : inB d 1 500000
          · have e : (gk, gp, gq, gr) = (0, 0, 0, 3) := by rw [← hG, grF, if_neg (by simp [h1]), if_pos h2]
            injection e with e1 e2
            injection e2 with e2 e3
            injection e3 with e3 e4
            subst e1 e2 e3 e4
            obtain ⟨⟨c1, c2, c3⟩, _⟩ := gl.1.c3
            have hout := inB_out h2
            by_cases h3 : d < 1
            · go_wp2_with (go_at_call 31; refine (RS.out _).mono ?_; rintro e w1 ⟨rfl, hb1⟩; simp only [H1.out]; obtain ⟨⟨r1, r2⟩, _⟩ := (kr.below hb1 hlt2).c2)
              go_meet
              exact gl2.trans (hb1.mono gl2.size)
            · have h3' : decide (d < 1) = false := by simpa using h3
              have h4 : 500000 < d := by omega
              go_wp2_with (go_at_call 31; refine (RS.out _).mono ?_; rintro e w1 ⟨rfl, hb1⟩; simp only [H1.out]; obtain ⟨⟨r1, r2⟩, _⟩ := (kr.below hb1 hlt2).c2)
              go_meet
              exact gl2.trans (hb1.mono gl2.size)
          · have hd := inB_iff.1 h2
            have h3 : decide (d < 1) = false := by simp; omega
            have h4 : decide (500000 < d) = false := by simp; omega
            by_cases h5 : b < d
            · have e : (gk, gp, gq, gr) = (0, 0, 0, 70) := by rw [← hG, grF, if_neg (by simp [h1]), if_neg (by simp [h2]), if_pos h5]
              injection e with e1 e2
              injection e2 with e2 e3
              injection e3 with e3 e4
              subst e1 e2 e3 e4
              obtain ⟨⟨c1, c2, c3⟩, _⟩ := gl.1.c3
              go_wp2_with (go_at_call 31; refine (RS.out _).mono ?_; rintro e w1 ⟨rfl, hb1⟩; simp only [H1.out]; obtain ⟨⟨r1, r2⟩, _⟩ := (kr.below hb1 hlt2).c2; obtain ⟨⟨c4, c5, c6⟩, _⟩ := (gl.1.below hb1 hlt1).c3)
              go_meet
              exact gl2.trans (hb1.mono gl2.size)
            · have h5' : decide (b < d) = false := by simpa using h5
              have e : (gk, gp, gq, gr) = (volF a d, volF a b - volF a d, volF a c - volF a d, 0) := by rw [← hG, grF, if_neg (by simp [h1]), if_neg (by simp [h2]), if_neg h5]
              injection e with e1 e2
              injection e2 with e2 e3
              injection e3 with e3 e4
              subst e1 e2 e3 e4
              have z1 := volF_bd hs.1 (d := b) (by omega)
              have z2 := volF_bd hs.1 (d := c) (by omega)
              have z3 := volF_bd hs.1 (d := d) (by omega)
              unfold volF at z1 z2 z3 kr ⊢
              obtain ⟨⟨z11, z12⟩, z13, z14⟩ := z1
              obtain ⟨⟨z21, z22⟩, z23, z24⟩ := z2
              obtain ⟨⟨z31, z32⟩, z33, z34⟩ := z3
              obtain ⟨⟨c1, c2, c3⟩, _⟩ := gl.1.c3
              go_wp2_with (go_at_call 31; refine (RS.out _).mono ?_; rintro e w1 ⟨rfl, hb1⟩; simp only [H1.out]; obtain ⟨⟨r1, r2⟩, _⟩ := (kr.below hb1 hlt2).c2; obtain ⟨⟨c4, c5, c6⟩, _⟩ := (gl.1.below hb1 hlt1).c3)
              go_meet
              exact gl2.trans (hb1.mono gl2.size)
      case rest =>
        rename_i hK
        exact hK _ _ (grinds_rest A n cap B l a b c d w h hB g1 _ hcut _ _ _ _ _ _ _ _ _ _ _ _ _ _ _ _ _ _ _ _ _ _ _ _ _ _ _ _ _ _ _ _ _ _ _ _ _ _ _ _ _ _ _ _ _ _ _ _ _ _ _ _ _ _ _ _ _ _ _ _ _ _ _ _ _ _ _ _ _ _ _ _ _ _ _ _ _ _ _ _ _ _ _ _ _ _ _ _ _ _ _ _ _ _ _ _ _ _ _ _ _ _ _ _ _ _ _ _ _ _ _ _ _ _ _ _ _ _ _ _ _ _ _ _ _ _ _ _ _ _ _ _ _ _ _ _ _ _ _ _ _ _ _ _ _ _ _ _ _ _ _ _ _ _ _ _ _ _ _ _ _ _ _ _ _ _ _ _ _ _ _ _ _ _ _ _ _ _ _ _ _ _ _ _ _ _ _ _ _ _ _ _ _ _ _ _ _ _ _ _ _ _ _ _ _ _ _ _ _ _ _ _ _ _ _ _ _ _ _ _ _ _ _ _ _ _)
end Go.Proofs.Ytlkfcbdbieenhaa
