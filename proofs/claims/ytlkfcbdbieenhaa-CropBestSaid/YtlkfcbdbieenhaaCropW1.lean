/-
  Walks of chapter 7, first part: the checks of stretches and saw.
-/
import Derived.Test.YtlkfcbdbieenhaaProg
import Derived.Test.YtlkfcbdbieenhaaMem
import Derived.Test.YtlkfcbdbieenhaaCropPure
import Derived.BigQuiet
import Derived.Deep.QuietTactic
namespace Go.Proofs.Ytlkfcbdbieenhaa
open Go.RowKit

set_option maxHeartbeats 400000 in
theorem ref_in (n a b : Int) (w : World) :
    Calls Try.prog 47 #[.int .i64 n, .int .i64 a, .int .i64 b] w fun e w' => e = .returned (.bool (inB n a b)) ∧ w = w' := by
  by_cases h : a ≤ n
  · by_cases h2 : n ≤ b
    all_goals
      go_enter Try.func47, Try.ntmps47
      go_wp2
      go_ret
      exact ⟨ret_bool (by simp [inB, h, h2]), rfl⟩
  · have hd : decide (a ≤ n) = false := by simpa using h
    go_enter Try.func47, Try.ntmps47
    go_wp2
    go_ret
    exact ⟨ret_bool (by rw [inB, hd]; rfl), rfl⟩

set_option maxHeartbeats 400000 in
theorem within_any (n a b : Int) (w : World) :
    Calls Try.prog 57 #[.int .i64 n, .int .i64 a, .int .i64 b] w fun e w' => e = .returned (.bool (inB n a b)) ∧ w = w' := by
  by_cases h : a ≤ n
  · by_cases h2 : n ≤ b
    all_goals
      go_enter Try.func57, Try.ntmps57
      go_wp2
      go_ret
      exact ⟨ret_bool (by simp [inB, h, h2]), rfl⟩
  · have hd : decide (a ≤ n) = false := by simpa using h
    go_enter Try.func57, Try.ntmps57
    go_wp2
    go_ret
    exact ⟨ret_bool (by rw [inB, hd]; rfl), rfl⟩

set_option maxHeartbeats 400000 in
theorem badSt_any (x y : Int) (w : World) :
    Calls Try.prog 56 #[.agg #[.int .i64 x, .int .i64 y]] w fun e w' => e = .returned (.bool (badSt (x, y))) ∧ Below w.heap.size w w' := by
  cases h1 : inB x 1 3000
  all_goals
    have H1 := Lib.hid h1
    go_enter Try.func56, Try.ntmps56
    go_wp2_with (go_at_call 57; refine (within_any _ _ _ _).mono ?_; rintro e w' ⟨rfl, rfl⟩)
    go_ret
    exact ⟨ret_bool (by simp [badSt, H1.out]), (Below.refl _ _).alloc (Nat.le_refl _) _⟩

set_option maxHeartbeats 400000 in
theorem indexSt_any (A : Option Addr) (n cap B : Nat) (l : List St) (w : World) (h : Sl eII 2 w B A n l) (hB : B ≤ w.heap.size) (hl : n ≤ 1000000) :
    Calls Try.prog 79 #[.slice A n cap, .func (.func 56) #[] #[]] w fun e w' => (∃ r : Int, e = .returned (.int .i64 r) ∧ (0 ≤ r ↔ l.any badSt = true)) ∧ Below w.heap.size w w' := by
  go_enter Try.func79, Try.ntmps79
  go_wp2
  go_loopw [8] (fun i wr => ∃ k : Nat, k ≤ n ∧ i = .int .i64 k ∧ (l.take k).any badSt = false ∧ Below w.heap.size w wr) (fun i _ => n - (intOf i).toNat)
  case atStart => exact ⟨0, Nat.zero_le _, rfl, rfl, Below.refl _ _⟩
  case round =>
    obtain ⟨k, hk, rfl, hany, hbl⟩ := hrel
    have HA := Lib.hid hany
    clear hany
    by_cases hlt : k < n
    · obtain ⟨x, hx⟩ := h.get hlt
      obtain ⟨b, off, rfl, hb, c1, c2⟩ := (h.below (hbl.mono hB)).at2 hx
      have HX := Lib.hid hx
      clear hx
      cases hbad : badSt x
      · have HB := Lib.hid hbad
        go_wp2_with (go_at_call 56; refine (badSt_any _ _ _).mono ?_; rintro e w' ⟨rfl, hb1⟩)
        go_roundw
        case rel => exact ⟨k + 1, by omega, by go_num, by rw [take_snoc HX.out, List.any_append, HA.out]; simp [HB.out], hbl.trans (hb1.mono hbl.size)⟩
        case measure => simp [intOf]; omega
      · have HB := Lib.hid hbad
        go_wp2_with (go_at_call 56; refine (badSt_any _ _ _).mono ?_; rintro e w' ⟨rfl, hb1⟩)
        go_ret
        refine ⟨⟨k, rfl, ?_⟩, hbl.trans (hb1.mono hbl.size)⟩
        simp only [Int.natCast_nonneg, true_iff]
        exact List.any_eq_true.2 ⟨x, List.mem_of_getElem? HX.out, HB.out⟩
    · go_wp2
      go_ret
      refine ⟨⟨-1, rfl, ?_⟩, hbl⟩
      have : l.take k = l := List.take_of_length_le (by have := h.len; omega)
      rw [← this, HA.out]
      simp

set_option maxHeartbeats 400000 in
theorem containsSt_any (A : Option Addr) (n cap B : Nat) (l : List St) (w : World) (h : Sl eII 2 w B A n l) (hB : B ≤ w.heap.size) (hl : n ≤ 1000000) :
    Calls Try.prog 58 #[.slice A n cap, .func (.func 56) #[] #[]] w fun e w' => e = .returned (.bool (l.any badSt)) ∧ Below w.heap.size w w' := by
  go_enter Try.func58, Try.ntmps58
  go_wp2_with fail
  refine (indexSt_any A n cap B l w h hB hl).mono ?_
  rintro e w' ⟨⟨r, rfl, hn⟩, hb1⟩
  have HN := Lib.hid hn
  clear hn
  by_cases h0 : 0 ≤ r
  all_goals
    go_wp2
    go_ret
    refine ⟨ret_bool ?_, hb1⟩
    have := HN.out
    cases hc : l.any badSt <;> simp_all

set_option maxHeartbeats 400000 in
theorem length_any (A : Option Addr) (n cap B : Nat) (l : List St) (w : World) (h : Sl eII 2 w B A n l) (hB : B ≤ w.heap.size) (hl : n ≤ 1000) (hg : l.any badSt = false) :
    Calls Try.prog 59 #[.slice A n cap] w fun e w' => e = .returned (.int .i64 (lenF l)) ∧ Below w.heap.size w w' := by
  have HG := Lib.hid hg
  clear hg
  go_enter Try.func59, Try.ntmps59
  go_wp2
  go_loopw [2, 7] (fun s i wr => ∃ k : Nat, k ≤ n ∧ i = .int .i64 k ∧ s = .int .i64 (lenF (l.take k)) ∧ Below w.heap.size w wr) (fun _ i _ => n - (intOf i).toNat)
  case atStart => exact ⟨0, Nat.zero_le _, rfl, rfl, Below.refl _ _⟩
  case round =>
    obtain ⟨k, hk, rfl, rfl, hbl⟩ := hrel
    have hbd := lenF_bd (any_take_f HG.out k)
    have htl : (l.take k).length ≤ k := List.length_take_le _ _
    by_cases hlt : k < n
    · obtain ⟨x, hx⟩ := h.get hlt
      obtain ⟨b, off, rfl, hb, c1, c2⟩ := (h.below (hbl.mono hB)).at2 hx
      have hx1 := badSt_f (any_at_f HG.out hx)
      have HX := Lib.hid hx
      clear hx
      go_wp2
      go_roundw
      case rel => exact ⟨k + 1, by omega, by go_num, by rw [take_snoc HX.out, lenF_append]; simp [lenF], hbl.alloc hbl.size _⟩
      case measure => simp [intOf]; omega
    · go_wp2
      go_ret
      exact ⟨ret_int (by rw [List.take_of_length_le (by have := h.len; omega)]), hbl⟩
end Go.Proofs.Ytlkfcbdbieenhaa
