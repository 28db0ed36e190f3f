/-
  TopWeighed, fifth walks: Scale.
-/
import Derived.Test.YthpnikalelookaaTwW4
namespace Go.Proofs.Ythpnikalelookaa
open Go.RowKit

set_option maxHeartbeats 4000000 in
theorem result_any (g : Nat) (c d : Int) (hc : isN c) (hd : isN d) (w : World) (hk : Bk w g 54 #[.int .i64 c, .int .i64 d, .bool true, .bool false]) :
    Calls Try.prog 17 #[.pointer (some ⟨g, 0, none⟩)] w fun e w' => e = .returned (.tuple #[.agg #[.int .i64 c, .int .i64 d], .int .i64 0]) ∧ Below w.heap.size w w' := by
  have HC := Lib.hid hc
  have HD := Lib.hid hd
  clear hc hd
  have hlt := hk.lt
  have c0 : w.cell? ⟨g, 0, none⟩ = some (.int .i64 c) := hk.cell rfl
  have c1 : w.cell? ⟨g, 1, none⟩ = some (.int .i64 d) := hk.cell rfl
  have c2 : w.cell? ⟨g, 2, none⟩ = some (.bool true) := hk.cell rfl
  have c3 : w.cell? ⟨g, 3, none⟩ = some (.bool false) := hk.cell rfl
  clear hk
  go_enter Try.func17, Try.ntmps17
  go_wp2
  go_region_with (go_at_call 19; refine (fits_any _ _ HC.out HD.out _).mono ?_; rintro e w1 ⟨rfl, hb1⟩; have k0 := (Bk.new w #[.int .i64 0, .int .i64 0] 24).drew.below hb1 (by simp); have e0 : w1.cell? ⟨w.heap.size, 0, none⟩ = some (.int .i64 0) := k0.cell rfl; have e1 : w1.cell? ⟨w.heap.size, 1, none⟩ = some (.int .i64 0) := k0.cell rfl; have f0 := k0.frozen 0; have f1 := k0.frozen 1; clear k0)
  all_goals
    have hbb : Below w.heap.size w w1 := (below_drewN ((Below.refl w.heap.size w).alloc (Nat.le_refl _) _) _).trans (hb1.mono (by simp))
    clear hb1
    go_wp2
    refine bodyPost_ret (v := .tuple #[.agg #[.int .i64 c, .int .i64 d], .int .i64 0]) (by simp [results, Try.results17, go_sem, e0, e1]) rfl ⟨rfl, ?_⟩
    exact (hbb.setCell (Nat.le_refl _) _).setCell (Nat.le_refl _) _

set_option maxHeartbeats 400000 in
theorem ok_any (n d : Int) (hn : isN n) (hd : 1 ≤ d) (hd1 : d ≤ 1000000000000000) (w : World) :
    Calls Try.prog 15 #[.agg #[.int .i64 n, .int .i64 d]] w fun e w' => e = .returned (.bool true) ∧ Below w.heap.size w w' := by
  have HF := Lib.hid (far_none (l := [n]) (fun x hx => by simp at hx; rcases hx with rfl; exact hn))
  clear hn
  go_enter Try.func15, Try.ntmps15
  go_wp2_with fail
  have hs := Sl.new enc1 (w.alloc (.cells #[.int .i64 n, .int .i64 d] 52)) 3 (w.heap.size + 1) (by simp) [n] #[.int .i64 n] (by simp [maxLen]) rfl
  refine (is_any (some ⟨w.heap.size + 1, 0, none⟩) 1 1 (w.heap.size + 1 + 1) [n] _ hs (by simp) (by simp)).mono ?_
  rintro e w1 ⟨rfl, hb1⟩
  rw [HF.out]
  have k0 := ((Bk.new w #[.int .i64 n, .int .i64 d] 52).alloc _).below hb1 (by simp; omega)
  have c0 : w1.cell? ⟨w.heap.size, 0, none⟩ = some (.int .i64 n) := k0.cell rfl
  have c1 : w1.cell? ⟨w.heap.size, 1, none⟩ = some (.int .i64 d) := k0.cell rfl
  have hbb : Below w.heap.size w w1 := (((Below.refl w.heap.size w).alloc (Nat.le_refl _) _).alloc (by simp) _).trans (hb1.mono (by simp; omega))
  clear hb1 hs k0
  go_wp2
  go_ret
  exact ⟨rfl, hbb⟩

theorem below_of_grown {B : Nat} {a w w' : World} {g : Nat} (h : Below B a w) (hg : w.grownBy w' (some g)) (hB : B ≤ w.heap.size) (hr : B ≤ g) : Below B a w' :=
  h.grown hg hB (fun k hk => by cases hk; exact hr)

/-- Scale by a number of pieces. -/
theorem scale_any (l h n : Int) (hl : 0 ≤ l) (hlh : l ≤ h) (hh : h ≤ 100000000) (hn : 0 ≤ n) (hn1 : n ≤ 1000) (w : World) :
    Calls Try.prog 7 #[.agg #[.int .i64 l, .int .i64 h], .agg #[.int .i64 n, .int .i64 1]] w fun e w' => e = .returned (.tuple #[.agg #[.int .i64 (l * n), .int .i64 (h * n)], .int .i64 0]) ∧ Below w.heap.size w w' := by
  have h1 : 0 ≤ l * n := Int.mul_nonneg hl hn
  have h2 : l * n ≤ h * n := Int.mul_le_mul_of_nonneg_right hlh hn
  have h3 : h * n ≤ 100000000 * 1000 := Int.mul_le_mul hh hn1 hn (by omega)
  have HB := Lib.hid (bad_none (l := [(l, h)]) (fun x hx => by simp at hx; subst hx; exact ⟨⟨by simp; omega, by simp; omega⟩, ⟨by simp; omega, by simp; omega⟩, hlh⟩))
  have A1 := Lib.hid (fun g => add_first g l n hl hn (by omega) (by omega) (by omega))
  have A2 := Lib.hid (fun g w => add_second g h n (l * n) (l * n) (by omega) hn (by omega) (by omega) (by omega) w (by omega) (by omega))
  generalize l * n = a at *
  generalize h * n = b at *
  go_enter Try.func7, Try.ntmps7
  go_wp2_with fail
  have hs := Sl.new enc2 (((w.alloc (.cells #[.int .i64 l, .int .i64 h] 24)).alloc (.cells #[.int .i64 n, .int .i64 1] 43)).alloc (.cells #[.int .i64 0, .int .i64 0] 24)) 24 (w.heap.size + 1 + 1 + 1) (by simp) [(l, h)] #[.int .i64 l, .int .i64 h] (by simp [maxLen]) rfl
  refine (valid_any (some ⟨w.heap.size + 1 + 1 + 1, 0, none⟩) 1 1 (w.heap.size + 1 + 1 + 1 + 1) [(l, h)] _ hs (by simp) (by simp)).mono ?_
  rintro e w1 ⟨rfl, hb1⟩
  rw [HB.out]
  have hz1 := hb1.size
  simp at hz1
  have k0 := (Bk.newAt w #[.int .i64 l, .int .i64 h] 24 w.heap.size rfl).alloc (.cells #[.int .i64 n, .int .i64 1] 43)
  have k1 := Bk.newAt (w.alloc (.cells #[.int .i64 l, .int .i64 h] 24)) #[.int .i64 n, .int .i64 1] 43 (w.heap.size + 1) (by simp)
  have k2 := Bk.newAt ((w.alloc (.cells #[.int .i64 l, .int .i64 h] 24)).alloc (.cells #[.int .i64 n, .int .i64 1] 43)) #[.int .i64 0, .int .i64 0] 24 (w.heap.size + 1 + 1) (by simp)
  replace k0 := ((k0.alloc _).alloc _).below hb1 (by simp <;> omega)
  replace k1 := ((k1.alloc _).alloc _).below hb1 (by simp <;> omega)
  replace k2 := (k2.alloc _).below hb1 (by simp <;> omega)
  have hbb : Below w.heap.size w w1 := (((((Below.refl w.heap.size w).alloc (Nat.le_refl _) _).alloc (by simp) _).alloc (by simp <;> omega) _).alloc (by simp <;> omega) _).trans (hb1.mono (by simp <;> omega))
  clear hb1 hs
  have c0 : w1.cell? ⟨w.heap.size + 1, 0, none⟩ = some (.int .i64 n) := k1.cell rfl
  have c1 : w1.cell? ⟨w.heap.size + 1, 1, none⟩ = some (.int .i64 1) := k1.cell rfl
  have K0 := Lib.hid k0
  have K1 := Lib.hid k1
  have K2 := Lib.hid k2
  have HBB := Lib.hid hbb
  clear k0 k1 k2 hbb
  go_wp2_with fail
  refine (ok_any n 1 ⟨by omega, by omega⟩ (by omega) (by omega) _).mono ?_
  rintro e w2 ⟨rfl, hb2⟩
  have hz2 := hb2.size
  have k0 := K0.out.below hb2 (by omega)
  have k1 := K1.out.below hb2 (by omega)
  have k2 := K2.out.below hb2 (by omega)
  replace HBB := Lib.hid (HBB.out.trans (hb2.mono (by omega)))
  clear K0 K1 K2 c0 c1 hb2
  have c0 : w2.cell? ⟨w.heap.size + 1, 0, none⟩ = some (.int .i64 n) := k1.cell rfl
  have c1 : w2.cell? ⟨w.heap.size + 1, 1, none⟩ = some (.int .i64 1) := k1.cell rfl
  have c2 : w2.cell? ⟨w.heap.size, 0, none⟩ = some (.int .i64 l) := k0.cell rfl
  have K0 := Lib.hid k0
  have K1 := Lib.hid k1
  have K2 := Lib.hid k2
  clear k0 k1 k2
  have q0 : w.heap.size < w2.heap.size := by omega
  have q1 : w.heap.size + 1 < w2.heap.size := by omega
  go_wp2_with fail
  refine (A1.out w2.heap.size _ (Bk.newAt w2 #[.int .i64 0, .int .i64 0, .bool false, .bool false] 54 w2.heap.size rfl)).mono ?_
  rintro e w3 ⟨rfl, hk3, hg3⟩
  have hz3 := hg3.size
  simp at hz3
  have k0 := (K0.out.alloc _).grown hg3 (by simp <;> omega)
  have k1 := (K1.out.alloc _).grown hg3 (by simp <;> omega)
  have k2 := (K2.out.alloc _).grown hg3 (by simp <;> omega)
  replace HBB := Lib.hid (below_of_grown (HBB.out.alloc (by omega) _) hg3 (by simp <;> omega) (by omega))
  clear K0 K1 K2 c0 c1 c2 hg3
  have c0 : w3.cell? ⟨w.heap.size + 1, 0, none⟩ = some (.int .i64 n) := k1.cell rfl
  have c1 : w3.cell? ⟨w.heap.size + 1, 1, none⟩ = some (.int .i64 1) := k1.cell rfl
  have c2 : w3.cell? ⟨w.heap.size, 1, none⟩ = some (.int .i64 h) := k0.cell rfl
  have K2 := Lib.hid k2
  clear k0 k1 k2
  go_wp2_with fail
  refine (A2.out w2.heap.size w3 hk3).mono ?_
  rintro e w4 ⟨rfl, hk4, hg4⟩
  have hz4 := hg4.size
  have k2 := K2.out.grown hg4 (by simp <;> omega)
  replace HBB := Lib.hid (below_of_grown HBB.out hg4 (by omega) (by omega))
  clear K2 c0 c1 c2 hg4 hk3
  have K2 := Lib.hid k2
  clear k2
  go_wp2_with fail
  refine (result_any w2.heap.size a b ⟨by omega, by omega⟩ ⟨by omega, by omega⟩ _ hk4).mono ?_
  rintro e w5 ⟨rfl, hb5⟩
  have k2 := K2.out.below hb5 (by omega)
  replace HBB := Lib.hid (HBB.out.trans (hb5.mono (by omega)))
  have c0 : w5.cell? ⟨w.heap.size + 1 + 1, 0, none⟩ = some (.int .i64 0) := k2.cell rfl
  have c1 : w5.cell? ⟨w.heap.size + 1 + 1, 1, none⟩ = some (.int .i64 0) := k2.cell rfl
  have f0 := k2.frozen 0
  have f1 := k2.frozen 1
  clear hb5 K2 hk4 k2
  go_wp2
  refine bodyPost_ret (v := .tuple #[.agg #[.int .i64 a, .int .i64 b], .int .i64 0]) (by simp [results, Try.results7, go_sem, c0, c1]) rfl ⟨rfl, ?_⟩
  exact (HBB.out.setCell (by simp <;> omega) _).setCell (by simp <;> omega) _
end Go.Proofs.Ythpnikalelookaa
