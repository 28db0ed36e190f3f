/-
  Walks of chapter 7, eleventh part: the reference's Value.
-/
import Derived.Test.YtlkfcbdbieenhaaCropWA
namespace Go.Proofs.Ytlkfcbdbieenhaa
open Go.RowKit

theorem woF_bd (f t : Int) (l : List St) (hg : l.any badSt = false) : -1 ≤ (woF f t l).2 ∧ (woF f t l).2 ≤ 1000 := by
  have : ∀ (l : List St) (p : Int × Int), l.any badSt = false → (-1 ≤ p.2 ∧ p.2 ≤ 1000) → -1 ≤ (l.foldl (woS f t) p).2 ∧ (l.foldl (woS f t) p).2 ≤ 1000 := fun l => by
    induction l with
    | nil => intro p _ hp; exact hp
    | cons x l ih =>
      intro p hg hp
      rw [List.any_cons, Bool.or_eq_false_iff] at hg
      refine ih _ hg.2 ?_
      have hx := badSt_f hg.1
      unfold woS
      split <;> simp <;> omega
  exact this l (0, 1000) hg (by simp)

set_option maxHeartbeats 1000000 in
theorem refValue_any (A : Option Addr) (n cap B : Nat) (l : List St) (f t : Int) (w : World) (h : Sl eII 2 w B A n l) (hB : B ≤ w.heap.size) (hn : n ≤ 1000) (hg : l.any badSt = false) (hf : 0 ≤ f ∧ f ≤ 1000000) (ht : 0 ≤ t ∧ t ≤ 1000000) :
    Calls Try.prog 28 #[.slice A n cap, .agg #[.int .i64 f, .int .i64 t]] w fun e w' => e = .returned (.int .i64 ((t - f) * (woF f t l).2)) ∧ Below w.heap.size w w' := by
  have b0 : Below w.heap.size w (w.alloc (.cells #[.int .i64 f, .int .i64 t] 49)) := ba (Below.refl _ _)
  have T := Lib.hid (fun W (hb : Below w.heap.size w W) => refWorth_any A n cap B l f t W (h.below (hb.mono hB)) hn hg)
  have B0 := Lib.hid b0
  have hbd := woF_bd f t l hg
  have hm : -1000000000 ≤ (t - f) * (woF f t l).2 ∧ (t - f) * (woF f t l).2 ≤ 1000000000 := by
    generalize (woF f t l).2 = z at *
    have h1 : (t - f) * z ≤ 1000000 * 1000 := by
      rcases Int.le_total 0 z with hz | hz
      · exact Int.le_trans (Int.mul_le_mul_of_nonneg_right (show t - f ≤ 1000000 by omega) hz) (Int.mul_le_mul_of_nonneg_left hbd.2 (by omega))
      · have : z = 0 ∨ z = -1 := by omega
        rcases this with rfl | rfl <;> omega
    have h2 : -(1000000 * 1000) ≤ (t - f) * z := by
      rcases Int.le_total 0 z with hz | hz
      · have := Int.mul_le_mul_of_nonneg_right (show -1000000 ≤ t - f by omega) hz
        have h3 := Int.mul_le_mul_of_nonneg_left hbd.2 (show (0 : Int) ≤ 1000000 by omega)
        omega
      · have : z = 0 ∨ z = -1 := by omega
        rcases this with rfl | rfl <;> omega
    constructor <;> omega
  clear b0
  go_enter Try.func28, Try.ntmps28
  go_wp2
  go_quiet ((go_at_call 61; exact Calls.quiet_of_same ((T.out _ (below_drewN B0.out _)).mono fun _ _ hx => ⟨hx.1, hx.2.symm⟩)))
  go_wp2
  go_ret
  exact ⟨rfl, below_drewN B0.out _⟩
end Go.Proofs.Ytlkfcbdbieenhaa
