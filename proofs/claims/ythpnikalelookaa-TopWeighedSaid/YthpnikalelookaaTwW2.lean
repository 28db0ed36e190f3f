/-
  TopWeighed, second walks: numbers, ranges and fractions of chapter 1 that are valid.
-/
import Derived.Test.YthpnikalelookaaTwW1
import Derived.Deep.RegionHeld3
import Derived.Deep.RegionLaw
namespace Go.Proofs.Ythpnikalelookaa
open Go.RowKit

theorem far_none {l : List Int} (h : ∀ x ∈ l, isN x) : l.any farB = false := by
  rw [List.any_eq_false]
  intro x hx
  rw [farB_f (h x hx)]; simp

set_option maxHeartbeats 400000 in
theorem is_any (A : Option Addr) (n cap B : Nat) (l : List Int) (w : World) (h : Sl eI 1 w B A n l) (hB : B ≤ w.heap.size) (hl : n ≤ 1000000) :
    Calls Try.prog 35 #[.slice A n cap] w fun e w' => e = .returned (.bool (!l.any farB)) ∧ Below w.heap.size w w' := by
  go_enter Try.func35, Try.ntmps35
  go_wp2_with fail
  refine (containsI_any isOne_any A n cap B l w h hB hl).mono ?_
  rintro e w' ⟨rfl, hb1⟩
  go_wp2
  go_ret
  exact ⟨rfl, hb1⟩

/-- A valid range of chapter 1, and one that is not. -/
def okR (r : Int × Int) : Prop := isN r.1 ∧ isN r.2 ∧ r.1 ≤ r.2
def badR (r : Int × Int) : Bool := [r.1, r.2].any farB || decide (r.2 < r.1)
theorem badR_f {r : Int × Int} (h : okR r) : badR r = false := by
  unfold badR
  rw [far_none (fun x hx => by simp at hx; rcases hx with rfl | rfl; exact h.1; exact h.2.1)]
  simpa using h.2.2
theorem bad_none {l : List (Int × Int)} (h : ∀ x ∈ l, okR x) : l.any badR = false := by
  rw [List.any_eq_false]
  intro x hx
  rw [badR_f (h x hx)]; simp

set_option maxHeartbeats 1000000 in
theorem validOne_any : Pred vR 34 badR := by
  refine ⟨by unfold Enters; kernel_rfl, fun r w => ?_⟩
  obtain ⟨l, h⟩ := r
  unfold vR
  simp only
  cases hf : [l, h].any farB
  · have HF := Lib.hid hf
    clear hf
    cases hd : decide (h < l)
    all_goals
      have HD := Lib.hid hd
      go_enter Try.func34, Try.ntmps34
      go_wp2_with fail
      have hs := Sl.new enc1 (w.alloc (.cells #[.int .i64 l, .int .i64 h] 24)) 3 (w.heap.size + 1) (by simp) [l, h] #[.int .i64 l, .int .i64 h] (by simp [maxLen]) rfl
      refine (is_any (some ⟨w.heap.size + 1, 0, none⟩) 2 2 (w.heap.size + 1 + 1) [l, h] _ hs (by simp) (by simp)).mono ?_
      rintro e w1 ⟨rfl, hb1⟩
      rw [HF.out]
      have k0 := ((Bk.new w #[.int .i64 l, .int .i64 h] 24).alloc _).below hb1 (by simp; omega)
      have c0 : w1.cell? ⟨w.heap.size, 0, none⟩ = some (.int .i64 l) := k0.cell rfl
      have c1 : w1.cell? ⟨w.heap.size, 1, none⟩ = some (.int .i64 h) := k0.cell rfl
      have hbb : Below w.heap.size w w1 := (((Below.refl w.heap.size w).alloc (Nat.le_refl _) _).alloc (by simp) _).trans (hb1.mono (by simp; omega))
      clear hb1 hs k0
      go_wp2
      go_ret
      exact ⟨ret_bool (by simp only [badR, HF.out, HD.out, Bool.false_or]), hbb⟩
  · have HF := Lib.hid hf
    clear hf
    go_enter Try.func34, Try.ntmps34
    go_wp2_with fail
    have hs := Sl.new enc1 (w.alloc (.cells #[.int .i64 l, .int .i64 h] 24)) 3 (w.heap.size + 1) (by simp) [l, h] #[.int .i64 l, .int .i64 h] (by simp [maxLen]) rfl
    refine (is_any (some ⟨w.heap.size + 1, 0, none⟩) 2 2 (w.heap.size + 1 + 1) [l, h] _ hs (by simp) (by simp)).mono ?_
    rintro e w1 ⟨rfl, hb1⟩
    rw [HF.out]
    have hbb : Below w.heap.size w w1 := (((Below.refl w.heap.size w).alloc (Nat.le_refl _) _).alloc (by simp) _).trans (hb1.mono (by simp; omega))
    clear hb1 hs
    go_wp2
    go_ret
    exact ⟨ret_bool (by simp only [badR, HF.out, Bool.true_or]), hbb⟩
end Go.Proofs.Ythpnikalelookaa
