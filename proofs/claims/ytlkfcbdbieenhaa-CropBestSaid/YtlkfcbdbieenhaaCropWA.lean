/-
  Walks of chapter 7, tenth part: the reference's Worth.
-/
import Derived.Test.YtlkfcbdbieenhaaCropW9
namespace Go.Proofs.Ytlkfcbdbieenhaa
open Go.RowKit

/-- The place and the least worth behind some stretches. -/
def woS (f t : Int) (p : Int × Int) (x : St) : Int × Int := (p.1 + x.1, if f < p.1 + x.1 ∧ p.1 < t then min p.2 x.2 else p.2)
def woF (f t : Int) (l : List St) : Int × Int := l.foldl (woS f t) (0, 1000)
theorem woF_snoc (f t : Int) (l : List St) (x : St) : woF f t (l ++ [x]) = woS f t (woF f t l) x := by simp [woF]
theorem woF_at (f t : Int) (l : List St) : (woF f t l).1 = lenF l := by
  have : ∀ (l : List St) (p : Int × Int), (l.foldl (woS f t) p).1 = p.1 + lenF l := fun l => by
    induction l with
    | nil => intro p; simp [lenF]
    | cons x l ih => intro p; rw [List.foldl_cons, ih]; simp [woS, lenF]; omega
  have h := this l (0, 1000)
  simpa [woF] using h

set_option maxHeartbeats 1000000 in
theorem refWorth_any (A : Option Addr) (n cap B : Nat) (l : List St) (f t : Int) (w : World) (h : Sl eII 2 w B A n l) (hn : n ≤ 1000) (hg : l.any badSt = false) :
    Calls Try.prog 61 #[.slice A n cap, .int .i64 f, .int .i64 t] w fun e w' => e = .returned (.int .i64 (woF f t l).2) ∧ w = w' := by
  have HG := Lib.hid hg
  clear hg
  go_enter Try.func61, Try.ntmps61
  go_wp2
  go_loop [7, 8, 9] (fun p m i => ∃ (k : Nat) (y z : Int), k ≤ n ∧ i = .int .i64 k ∧ p = .int .i64 y ∧ m = .int .i64 z ∧ woF f t (l.take k) = (y, z)) (fun _ _ i => n - (intOf i).toNat)
  case atStart => exact ⟨0, 0, 1000, Nat.zero_le _, rfl, rfl, rfl, rfl⟩
  case round =>
    obtain ⟨k, y, z, hk, rfl, rfl, rfl, hw⟩ := hrel
    have hy : y = lenF (l.take k) := by rw [← woF_at f t, hw]
    have hbd := lenF_bd (any_take_f HG.out k)
    rw [← hy] at hbd
    have htl : (l.take k).length ≤ k := List.length_take_le _ _
    have HW := Lib.hid hw
    clear hw hy
    by_cases hlt : k < n
    · obtain ⟨x, hx⟩ := h.get hlt
      obtain ⟨b, off, rfl, hb, c1, c2⟩ := h.at2 hx
      have hx1 := badSt_f (any_at_f HG.out hx)
      have HX := Lib.hid hx
      clear hx
      obtain ⟨x1, x2⟩ := x
      by_cases q1 : f < y + x1
      · by_cases q2 : y < t
        · go_wp2
          all_goals
            go_round
            case rel => exact ⟨k + 1, y + x1, min z x2, by omega, by go_num, by go_num, by go_num, by rw [take_snoc HX.out, woF_snoc, HW.out]; simp [woS, q1, q2]⟩
            case measure => simp [intOf]; omega
        · have q2' : decide (y < t) = false := by simpa using q2
          go_wp2
          go_round
          case rel => exact ⟨k + 1, y + x1, z, by omega, by go_num, by go_num, rfl, by rw [take_snoc HX.out, woF_snoc, HW.out]; simp [woS, q2]⟩
          case measure => simp [intOf]; omega
      · have q1' : decide (f < y + x1) = false := by simpa using q1
        go_wp2
        go_round
        case rel => exact ⟨k + 1, y + x1, z, by omega, by go_num, by go_num, rfl, by rw [take_snoc HX.out, woF_snoc, HW.out]; simp [woS, q1]⟩
        case measure => simp [intOf]; omega
    · go_wp2
      go_ret
      have e := HW.out
      rw [List.take_of_length_le (by have := h.len; omega)] at e
      exact ⟨ret_int (by rw [e]), rfl⟩
end Go.Proofs.Ytlkfcbdbieenhaa
