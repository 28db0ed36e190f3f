/-
  Chapter 11, plain: control charts: which rules speak.
-/
import Derived.Test.YtfmcdbcoljpomaaShopC1
set_option linter.unusedSimpArgs false
set_option linter.unusedVariables false
namespace Go.Proofs.Ytfmcdbcoljpomaa
open Go.RowKit Go.Vm
/-- A rule: of how many of the last ones how many are how far. -/
abbrev Ru := Int × Int × Int
def eU (t : Ru) : List Value := [.int .i64 t.1, .int .i64 t.2.1, .int .i64 t.2.2]
instance flU : FlatE eU 3 := ⟨fun _ => rfl, fun _ => rfl, fun _ => rfl⟩
abbrev uV (t : Ru) : Value := .agg #[.int .i64 t.1, .int .i64 t.2.1, .int .i64 t.2.2]
/-- An alarm: the value's number, the rule's, the side. -/
abbrev Al := Int × Int × Int
def ruOK (r : Ru) : Bool := decide (1 ≤ r.1) && decide (r.1 ≤ r.2.1) && decide (r.2.1 ≤ 20) && inT r.2.2 0 1000000
theorem ruOK_ok {r : Ru} (h : ruOK r = true) : 1 ≤ r.1 ∧ r.1 ≤ r.2.1 ∧ r.2.1 ≤ 20 ∧ 0 ≤ r.2.2 ∧ r.2.2 ≤ 1000000 := by
  unfold ruOK inT at h
  simp only [Bool.and_eq_true, decide_eq_true_eq] at h
  omega
def chOK (c : Int) (rs : List Ru) : Bool := inT c (-1000000) 1000000 && decide (rs.length ≤ 8) && rs.all ruOK
def farB (c : Int) (r : Ru) (s v : Int) : Bool := decide (r.2.2 < s * (v - c))
/-- Whether a rule speaks at the last of some values. -/
def spkR (c : Int) (r : Ru) (s : Int) (vs : List Int) : Bool :=
  decide (r.1 ≤ ((vs.drop (vs.length - r.2.1).toNat).countP (farB c r s) : Int)) && farB c r s (nth vs (vs.length - 1))
/-- The alarms of one rule. -/
def at1 (c : Int) (r : Ru) (k : Int) (vs : List Int) : List Al :=
  (if spkR c r 1 vs = true then [(((vs.length : Int) - 1), k, 1)] else []) ++ if spkR c r (-1) vs = true then [(((vs.length : Int) - 1), k, -1)] else []
/-- The alarms of the first rules at the last of some values. -/
def atF (c : Int) (rs : List Ru) (vs : List Int) : Nat → List Al
  | 0 => []
  | k + 1 => atF c rs vs k ++ at1 c (nth rs k) k vs
/-- The alarms at the first values. -/
def alF (c : Int) (rs : List Ru) (vs : List Int) : Nat → List Al
  | 0 => []
  | m + 1 => alF c rs vs m ++ atF c rs (vs.take (m + 1)) rs.length
def alE (c : Int) (rs : List Ru) (vs : List Int) : Int :=
  if chOK c rs = false then 2 else if 200 < vs.length then 5 else if vs.all (fun v => inT v (-1000000) 1000000) = false then 3 else 0
/-- The numbers of the values that are far. -/
def flF (c : Int) (r : Ru) (s : Int) (vs : List Int) : List Int := ((List.range vs.length).filter fun i => farB c r s (nth vs i)).map fun i : Nat => (i : Int)
theorem nth_app1 {vs : List Int} {v : Int} {i : Nat} (h : i < vs.length) : nth (vs ++ [v]) i = nth vs i := by
  unfold nth
  rw [List.getD_eq_getElem?_getD, List.getD_eq_getElem?_getD, List.getElem?_append_left h]
theorem nth_app2 {vs : List Int} {v : Int} : nth (vs ++ [v]) vs.length = v := by
  unfold nth
  rw [List.getD_eq_getElem?_getD, List.getElem?_append_right (Nat.le_refl _), Nat.sub_self]
  rfl
theorem flF_snoc (c : Int) (r : Ru) (s : Int) (vs : List Int) (v : Int) : flF c r s (vs ++ [v]) = flF c r s vs ++ if farB c r s v = true then [(vs.length : Int)] else [] := by
  unfold flF
  rw [List.length_append, List.length_singleton, List.range_succ, List.filter_append, List.map_append]
  congr 1
  · congr 1
    refine List.filter_congr fun i hi => ?_
    rw [nth_app1 (List.mem_range.1 hi)]
  · rw [List.filter_cons, nth_app2, List.filter_nil]
    split <;> rfl
theorem flF_bd {c : Int} {r : Ru} {s : Int} {vs : List Int} : ∀ x ∈ flF c r s vs, 0 ≤ x ∧ x < vs.length := by
  intro x hx
  unfold flF at hx
  rw [List.mem_map] at hx
  obtain ⟨i, hi, rfl⟩ := hx
  have := List.mem_range.1 (List.mem_filter.1 hi).1
  omega
theorem flF_sorted (c : Int) (r : Ru) (s : Int) (vs : List Int) : (flF c r s vs).Pairwise (fun x y => x < y) := by
  unfold flF
  rw [List.pairwise_map]
  refine List.Pairwise.filter _ ?_
  refine List.pairwise_lt_range.imp fun h => by omega
/-- The last n elements. -/
def lastN (n : Int) (l : List Int) : List Int := l.drop (l.length - n).toNat
theorem lastN_len {n : Int} {l : List Int} (hn : 0 ≤ n) : ((lastN n l).length : Int) = min (l.length : Int) n := by
  unfold lastN
  rw [List.length_drop]
  omega
theorem lastN_snoc {n : Int} {l : List Int} {x : Int} (hn : 1 ≤ n) : lastN n (l ++ [x]) = if n < ((lastN n l).length + 1 : Int) then (lastN n l ++ [x]).drop 1 else lastN n l ++ [x] := by
  have hl := lastN_len (l := l) (show 0 ≤ n by omega)
  unfold lastN at hl ⊢
  split
  · rename_i h
    have h1 : n ≤ l.length := by omega
    rw [List.length_append, List.length_singleton]
    have e : ((((l.length + 1 : Nat) : Int) - n).toNat) = (l.length - n).toNat + 1 := by omega
    rw [e, ← List.drop_append_of_le_length (by omega), List.drop_drop]
  · rename_i h
    have e0 : (((l.length : Nat) : Int) - n).toNat = 0 := by omega
    have e1 : ((((l ++ [x]).length : Nat) : Int) - n).toNat = 0 := by rw [List.length_append, List.length_singleton]; omega
    rw [e0, e1]
    rfl
theorem rev_ind {α : Type} {P : List α → Prop} (h0 : P []) (h1 : ∀ l x, P l → P (l ++ [x])) (l : List α) : P l := by
  have h : ∀ r : List α, P r.reverse := fun r => by
    induction r with
    | nil => exact h0
    | cons x r ih => rw [List.reverse_cons]; exact h1 _ _ ih
  have := h l.reverse
  rwa [List.reverse_reverse] at this
theorem fl_count (c : Int) (r : Ru) (s : Int) (vs : List Int) (j : Nat) : (vs.drop j).countP (farB c r s) = ((flF c r s vs).filter fun x => decide ((j : Int) ≤ x)).length := by
  refine rev_ind (P := fun vs => (vs.drop j).countP (farB c r s) = ((flF c r s vs).filter fun x => decide ((j : Int) ≤ x)).length) ?_ (fun vs v ih => ?_) vs
  · simp [flF]
  · rw [flF_snoc, List.filter_append, List.length_append, ← ih]
    by_cases hj : j ≤ vs.length
    · rw [List.drop_append_of_le_length hj, List.countP_append]
      congr 1
      cases hf : farB c r s v with
      | true =>
        rw [if_pos rfl, List.filter_cons, if_pos (by simpa using hj)]
        simp [hf]
      | false => simp [hf]
    · rw [List.drop_of_length_le (by rw [List.length_append, List.length_singleton]; omega), List.drop_of_length_le (by omega)]
      cases hf : farB c r s v with
      | true =>
        rw [if_pos rfl, List.filter_cons, if_neg (by simp; omega)]
        rfl
      | false => rfl
/-- That the last ones are all behind a place says that so many are. -/
theorem last_count {F : List Int} {n b : Int} (hs : F.Pairwise (fun x y => x < y)) (hn : 1 ≤ n) :
    (decide (((lastN n F).length : Int) = n) && decide (b < nth (lastN n F) 0)) = decide (n ≤ ((F.filter fun x => decide (b + 1 ≤ x)).length : Int)) := by
  have hlen := lastN_len (l := F) (show 0 ≤ n by omega)
  by_cases h1 : (F.length : Int) < n
  · have h2 : (F.filter fun x => decide (b + 1 ≤ x)).length ≤ F.length := List.length_filter_le _ _
    rw [decide_eq_false (by omega), decide_eq_false (show ¬ n ≤ _ by omega)]
    rfl
  · rw [decide_eq_true (show ((lastN n F).length : Int) = n by omega), Bool.true_and]
    obtain ⟨A, B, hF, hA⟩ : ∃ A B, F = A ++ B ∧ B = lastN n F := ⟨_, _, (List.take_append_drop _ _).symm, rfl⟩
    rw [← hA] at hlen ⊢
    have hB : (B.length : Int) = n := by omega
    clear hA
    subst hF
    rw [List.pairwise_append] at hs
    obtain ⟨_, s2, s3⟩ := hs
    rw [List.filter_append, List.length_append]
    match B, hB, s2, s3 with
    | [], hB, _, _ => simp at hB; omega
    | y :: t, hB, s2, s3 =>
      rw [List.pairwise_cons] at s2
      show decide (b < y) = _
      have ht : (t.filter fun x => decide (b + 1 ≤ x)).length ≤ t.length := List.length_filter_le _ _
      simp only [List.length_cons] at hB
      by_cases hy : b < y
      · have e1 : t.filter (fun x => decide (b + 1 ≤ x)) = t := List.filter_eq_self.2 fun z hz => by have := s2.1 z hz; simp; omega
        rw [decide_eq_true hy, List.filter_cons, if_pos (by simp; omega), e1, List.length_cons]
        exact (decide_eq_true (by omega)).symm
      · have e1 : A.filter (fun x => decide (b + 1 ≤ x)) = [] := List.filter_eq_nil_iff.2 fun z hz => by have := s3 z hz y (by simp); simp; omega
        rw [decide_eq_false hy, e1, List.filter_cons, if_neg (by simp; omega)]
        exact (decide_eq_false (by simp only [List.length_nil]; omega)).symm
/-- Which side a value is on. -/
def sideF (c v : Int) : Int := if v - c < 0 then -1 else 1
def offF (c v : Int) : Int := if v - c < 0 then -(v - c) else v - c
theorem off_far (c : Int) (r : Ru) (v : Int) : farB c r (sideF c v) v = decide (r.2.2 < offF c v) := by
  unfold farB sideF offF
  split
  · congr 1; rw [Int.neg_one_mul]
  · rw [Int.one_mul]
/-- What one rule says at a new value. -/
theorem at1_snoc {c : Int} {r : Ru} {k : Int} {vs : List Int} {v : Int} (hr : ruOK r = true) :
    at1 c r k (vs ++ [v]) = if r.2.2 < offF c v then (if ((lastN r.1 (flF c r (sideF c v) (vs ++ [v]))).length : Int) = r.1 ∧ (vs.length : Int) - r.2.1 < nth (lastN r.1 (flF c r (sideF c v) (vs ++ [v]))) 0 then [((vs.length : Int), k, sideF c v)] else []) else [] := by
  obtain ⟨b1, b2, b3, b4, b5⟩ := ruOK_ok hr
  have hlast : nth (vs ++ [v]) ((vs ++ [v]).length - 1) = v := by
    rw [List.length_append, List.length_singleton, Nat.add_sub_cancel]
    exact nth_app2
  have hspk : ∀ s, spkR c r s (vs ++ [v]) = ((decide (((lastN r.1 (flF c r s (vs ++ [v]))).length : Int) = r.1) && decide ((vs.length : Int) - r.2.1 < nth (lastN r.1 (flF c r s (vs ++ [v]))) 0)) && farB c r s v) := by
    intro s
    unfold spkR
    rw [hlast, last_count (flF_sorted _ _ _ _) b1, fl_count]
    congr 2
    have : (flF c r s (vs ++ [v])).filter (fun x => decide ((((((vs ++ [v]).length : Nat) : Int) - r.2.1).toNat : Int) ≤ x)) = (flF c r s (vs ++ [v])).filter (fun x => decide ((vs.length : Int) - r.2.1 + 1 ≤ x)) := by
      refine List.filter_congr fun x hx => ?_
      have hb := flF_bd x hx
      rw [List.length_append, List.length_singleton]
      refine decide_eq_decide.2 ⟨fun h => by omega, fun h => by omega⟩
    rw [this]
  have hle : (((vs ++ [v]).length : Nat) : Int) - 1 = vs.length := by rw [List.length_append, List.length_singleton]; omega
  unfold at1
  rw [hspk, hspk, hle]
  by_cases hs : v - c < 0
  · have e1 : sideF c v = -1 := if_pos hs
    have f1 : farB c r 1 v = false := by unfold farB; exact decide_eq_false (by omega)
    have f2 := off_far c r v
    rw [e1] at f2 ⊢
    rw [f1, f2, Bool.and_false, if_neg (by decide), List.nil_append]
    by_cases h2 : r.2.2 < offF c v
    · rw [if_pos h2, decide_eq_true h2, Bool.and_true]
      simp only [Bool.and_eq_true, decide_eq_true_eq]
    · rw [if_neg h2, decide_eq_false h2, Bool.and_false, if_neg (by decide)]
  · have e1 : sideF c v = 1 := if_neg hs
    have f1 : farB c r (-1) v = false := by unfold farB; exact decide_eq_false (by omega)
    have f2 := off_far c r v
    rw [e1] at f2 ⊢
    rw [f1, f2, Bool.and_false, if_neg (show ¬ (false = true) by decide), List.append_nil]
    by_cases h2 : r.2.2 < offF c v
    · rw [if_pos h2, decide_eq_true h2, Bool.and_true]
      simp only [Bool.and_eq_true, decide_eq_true_eq]
    · rw [if_neg h2, decide_eq_false h2, Bool.and_false, if_neg (by decide)]
end Go.Proofs.Ytfmcdbcoljpomaa
