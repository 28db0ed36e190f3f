/-
  Walks of chapter 7, grinding: Grind.
-/
import Derived.Test.YtlkfcbdbieenhaaCropG1
import Derived.Test.YtlkfcbdbieenhaaMem2
import Derived.Deep.RegionHeld3
import Derived.IntWalk
namespace Go.Proofs.Ytlkfcbdbieenhaa
open Go.RowKit

def volF (a d : Int) : Int := a * d * d
theorem volF_bd {a d : Int} (ha : 1 ≤ a ∧ a ≤ 3000) (hd : 0 ≤ d ∧ d ≤ 500000) : (0 ≤ a * d ∧ a * d ≤ 1500000000) ∧ 0 ≤ volF a d ∧ volF a d ≤ 750000000000000 := by
  have h1 : 0 ≤ a * d := Int.mul_nonneg (by omega) (by omega)
  have h2 : a * d ≤ 3000 * 500000 := Int.mul_le_mul (by omega) (by omega) (by omega) (by omega)
  have h3 : 0 ≤ a * d * d := Int.mul_nonneg h1 (by omega)
  have h4 : a * d * d ≤ 3000 * 500000 * 500000 := Int.mul_le_mul h2 (by omega) (by omega) (by omega)
  unfold volF
  exact ⟨⟨h1, by omega⟩, h3, by omega⟩

set_option maxHeartbeats 400000 in
theorem section_any (g : Nat) (a b c d : Int) (w : World) (hk : Bk w g 40 #[.int .i64 a, .int .i64 b, .int .i64 c]) (ha : 1 ≤ a ∧ a ≤ 3000) (hd : 0 ≤ d ∧ d ≤ 500000) :
    Calls Try.prog 55 #[.int .i64 d, .pointer (some ⟨g, 0, none⟩)] w fun e w' => e = .returned (.int .i64 (volF a d)) ∧ w = w' := by
  have hb := volF_bd ha hd
  obtain ⟨⟨c1, c2, c3⟩, _⟩ := hk.c3
  obtain ⟨⟨b1, b2⟩, b3, b4⟩ := hb
  unfold volF at b3 b4
  go_enter Try.func55, Try.ntmps55
  go_wp2
  go_ret
  exact ⟨ret_int (by unfold volF; go_num), rfl⟩

theorem wrapSub {x y : Int} (hx : 0 ≤ x ∧ x ≤ 750000000000000) (hy : 0 ≤ y ∧ y ≤ 750000000000000) : IntKind.i64.wrap (x - y) = x - y := by
  unfold IntKind.wrap
  simp [IntKind.bits, IntKind.signed]
  omega

/-- What Grind returns. -/
def grF (a b c d : Int) : Int × Int × Int × Int :=
  if okS (a, b, c) = false then (0, 0, 0, 2) else if inB d 1 500000 = false then (0, 0, 0, 3) else if b < d then (0, 0, 0, 70) else (volF a d, volF a b - volF a d, volF a c - volF a d, 0)
def grV (x : Int × Int × Int × Int) : Value := .tuple #[.int .i64 x.1, .agg #[.int .i64 x.2.1, .int .i64 x.2.2.1], .int .i64 x.2.2.2]

/-- The two blocks of Grind's own. -/
def GW (w wr : World) (a b c : Int) : Prop := Bk wr w.heap.size 40 #[.int .i64 a, .int .i64 b, .int .i64 c] ∧ Bk wr (w.heap.size + 1) 38 #[.int .i64 0, .int .i64 0] ∧ Below w.heap.size w wr
theorem GW.start (w : World) (a b c : Int) : GW w ((w.alloc (.cells #[.int .i64 a, .int .i64 b, .int .i64 c] 40)).alloc (.cells #[.int .i64 0, .int .i64 0] 38)) a b c :=
  ⟨(Bk.newAt w _ _ _ rfl).alloc _, Bk.newAt _ _ _ _ (by simp), ((Below.refl _ _).alloc (Nat.le_refl _) _).alloc (by simp) _⟩
theorem GW.below {w wr w1 : World} {a b c : Int} (h : GW w wr a b c) (hb : Below wr.heap.size wr w1) : GW w w1 a b c := ⟨h.1.below hb h.1.lt, h.2.1.below hb h.2.1.lt, h.2.2.trans (hb.mono h.2.2.size)⟩

set_option maxRecDepth 100000 in
set_option maxHeartbeats 4000000 in
theorem grind_any (a b c d : Int) (w : World) :
    Calls Try.prog 23 #[.agg #[.int .i64 a, .int .i64 b, .int .i64 c], .int .i64 d] w fun e w' => e = .returned (grV (grF a b c d)) ∧ Below w.heap.size w w' := by
  have G0 := Lib.hid (GW.start w a b c)
  cases h1 : okS (a, b, c)
  · have H1 := Lib.hid h1
    go_enter Try.func23, Try.ntmps23
    go_wp2_with (go_at_call 53; refine (isSlab_any _ _ _ _).mono ?_; rintro e w1 ⟨rfl, hb1⟩; have gw := G0.out.below hb1; obtain ⟨⟨c1, c2⟩, ⟨f1, f2⟩⟩ := gw.2.1.c2)
    go_region
    go_wp2
    refine bodyPost_ret (v := grV (0, 0, 0, 2)) (by simp [grV, results, Try.results23, go_sem, c1, c2]) rfl ⟨?_, ?_⟩
    · rw [grF, H1.out]; rfl
    · exact bdr (bs (bs gw.2.2 (by simp)) (by simp))
  · have H1 := Lib.hid h1
    have hs := okS_t h1
    cases h2 : inB d 1 500000
    · have H2 := Lib.hid h2
      go_enter Try.func23, Try.ntmps23
      go_wp2_with (first | (go_at_call 53; refine (isSlab_any _ _ _ _).mono ?_; rintro e w1 ⟨rfl, hb1⟩; have gw := G0.out.below hb1; obtain ⟨⟨c1, c2⟩, ⟨f1, f2⟩⟩ := gw.2.1.c2) | (go_at_call 54; refine (isDiameter_any _ _).mono ?_; rintro e w2 ⟨rfl, rfl⟩))
      go_region
      go_wp2
      refine bodyPost_ret (v := grV (0, 0, 0, 3)) (by simp [grV, results, Try.results23, go_sem, c1, c2]) rfl ⟨?_, ?_⟩
      · rw [grF, H1.out, H2.out]; rfl
      · exact bdr (bs (bs gw.2.2 (by simp)) (by simp))
    · have H2 := Lib.hid h2
      have hd := inB_iff.1 h2
      by_cases h3 : b < d
      · go_enter Try.func23, Try.ntmps23
        go_wp2_with (first | (go_at_call 53; refine (isSlab_any _ _ _ _).mono ?_; rintro e w1 ⟨rfl, hb1⟩; have gw := G0.out.below hb1; obtain ⟨⟨c1, c2⟩, ⟨f1, f2⟩⟩ := gw.2.1.c2; obtain ⟨⟨k1, k2, k3⟩, _⟩ := gw.1.c3) | (go_at_call 54; refine (isDiameter_any _ _).mono ?_; rintro e w2 ⟨rfl, rfl⟩))
        go_region
        go_wp2
        refine bodyPost_ret (v := grV (0, 0, 0, 70)) (by simp [grV, results, Try.results23, go_sem, c1, c2]) rfl ⟨?_, ?_⟩
        · rw [grF, H1.out, H2.out, if_neg (by simp), if_neg (by simp), if_pos h3]
        · exact bdr (bs (bs gw.2.2 (by simp)) (by simp))
      · have b1 := (volF_bd hs.1 (d := b) (by omega)).2
        have b2 := (volF_bd hs.1 (d := c) (by omega)).2
        have b3 := (volF_bd hs.1 (d := d) (by omega)).2
        have S1 := Lib.hid (fun g W (hk : Bk W g 40 #[.int .i64 a, .int .i64 b, .int .i64 c]) => section_any g a b c b W hk hs.1 (by omega))
        have S2 := Lib.hid (fun g W (hk : Bk W g 40 #[.int .i64 a, .int .i64 b, .int .i64 c]) => section_any g a b c c W hk hs.1 (by omega))
        have S3 := Lib.hid (fun g W (hk : Bk W g 40 #[.int .i64 a, .int .i64 b, .int .i64 c]) => section_any g a b c d W hk hs.1 (by omega))
        have fin : grF a b c d = (volF a d, volF a b - volF a d, volF a c - volF a d, 0) := by rw [grF, H1.out, H2.out, if_neg (by simp), if_neg (by simp), if_neg h3]
        have FIN := Lib.hid fin
        clear fin
        generalize volF a b = vb at *
        generalize volF a c = vc at *
        generalize volF a d = vd at *
        go_enter Try.func23, Try.ntmps23
        go_wp2_with (first | (go_at_call 53; refine (isSlab_any _ _ _ _).mono ?_; rintro e w1 ⟨rfl, hb1⟩; have gw := G0.out.below hb1; obtain ⟨⟨c1, c2⟩, ⟨f1, f2⟩⟩ := gw.2.1.c2; obtain ⟨⟨k1, k2, k3⟩, _⟩ := gw.1.c3) | (go_at_call 54; refine (isDiameter_any _ _).mono ?_; rintro e w2 ⟨rfl, rfl⟩) | (go_at_call 55; refine (S3.out _ _ gw.1).mono ?_; rintro e w3 ⟨rfl, rfl⟩))
        go_region_with (first | (go_at_call 55; refine (S1.out _ _ gw.1.drew).mono ?_; rintro e w3 ⟨rfl, rfl⟩) | (go_at_call 55; refine (S2.out _ _ gw.1.drew).mono ?_; rintro e w3 ⟨rfl, rfl⟩))
        all_goals
          go_wp2
          refine bodyPost_ret (v := grV (vd, vb - vd, vc - vd, 0)) (by simp [grV, results, Try.results23, go_sem, c1, c2, wrapSub b1 b3, wrapSub b2 b3]) rfl ⟨by rw [FIN.out], ?_⟩
          exact bdr (bs (bs gw.2.2 (by simp)) (by simp))
end Go.Proofs.Ytlkfcbdbieenhaa
