/-
  Chapter 7 in plain Lean: what the program's functions compute. No program in sight.
-/
namespace Go.Proofs.Ytlkfcbdbieenhaa
def inB (n a b : Int) : Bool := decide (a ≤ n) && decide (n ≤ b)
theorem inB_iff {n a b : Int} : inB n a b = true ↔ a ≤ n ∧ n ≤ b := by simp [inB]
theorem inB_t {n a b : Int} (h : a ≤ n ∧ n ≤ b) : inB n a b = true := inB_iff.2 h
theorem inB_f {n a b : Int} (h : ¬ (a ≤ n ∧ n ≤ b)) : inB n a b = false := by
  cases e : inB n a b with
  | false => rfl
  | true => exact absurd (inB_iff.1 e) h
theorem inB_out {n a b : Int} (h : inB n a b = false) : ¬ (a ≤ n ∧ n ≤ b) := fun h' => by rw [inB_t h'] at h; cases h

abbrev St := Int × Int
abbrev Saw := Int × Int × Int
abbrev Bl := Int × Int

def badSt (x : St) : Bool := !inB x.1 1 3000 || !inB x.2 (-1) 1000
def lenF : List St → Int
  | [] => 0
  | x :: l => x.1 + lenF l
def badSaw (s : Saw) : Bool := decide (s.1 < 1) || decide (s.2.1 < s.1) || decide (600 < s.2.1) || !inB s.2.2 0 20
def checkF (l : List St) (s : Saw) : Int :=
  if 60 < l.length then 5
  else if l.any badSt || decide (3000 < lenF l) || badSaw s then 2 else 0
def lenO : List St → Int
  | [] => 0
  | x :: l => min (max x.1 0) 4000 + lenO l
theorem lenO_append (a b : List St) : lenO (a ++ b) = lenO a + lenO b := by
  induction a with
  | nil => simp [lenO]
  | cons x a ih => simp [lenO, ih]; omega
theorem lenO_bd (l : List St) : 0 ≤ lenO l ∧ lenO l ≤ 4000 * l.length := by
  induction l with
  | nil => simp [lenO]
  | cons x l ih => simp only [lenO, List.length_cons]; omega
/-- The worth of each mm. -/
def wF (l : List St) : List Int := l.flatMap fun x => List.replicate x.1.toNat x.2
theorem wF_append (a b : List St) : wF (a ++ b) = wF a ++ wF b := by simp [wF]
theorem wF_len : ∀ l : List St, l.any badSt = false → ((wF l).length : Int) = lenF l
  | [], _ => rfl
  | x :: l, h => by
    simp only [List.any_cons, Bool.or_eq_false_iff] at h
    have ih := wF_len l h.2
    have hx : 1 ≤ x.1 := by
      have := h.1
      simp only [badSt, Bool.or_eq_false_iff, Bool.not_eq_false'] at this
      exact (inB_iff.1 this.1).1
    simp only [wF, List.flatMap_cons, List.length_append, List.length_replicate, lenF] at ih ⊢
    omega
theorem checkF_two {l : List St} {s1 s2 s3 : Int} (h60 : ¬ 60 < l.length) (h : l.any badSt = true ∨ 3000 < lenF l ∨ s1 < 1 ∨ s2 < s1 ∨ 600 < s2 ∨ inB s3 0 20 = false) : checkF l (s1, s2, s3) = 2 := by
  unfold checkF
  rw [if_neg h60, if_pos]
  rcases h with h | h | h | h | h | h <;> simp [badSaw, h]
theorem checkF_zero {l : List St} {s1 s2 s3 : Int} (h60 : ¬ 60 < l.length) (h1 : l.any badSt = false) (h2 : ¬ 3000 < lenF l) (h3 : ¬ s1 < 1) (h4 : ¬ s2 < s1) (h5 : ¬ 600 < s2) (h6 : inB s3 0 20 = true) : checkF l (s1, s2, s3) = 0 := by
  unfold checkF
  rw [if_neg h60, if_neg]
  simp [badSaw, h1, h2, h3, h4, h5, h6]
theorem badSaw_f {s1 s2 s3 : Int} (h : badSaw (s1, s2, s3) = false) : 1 ≤ s1 ∧ s1 ≤ s2 ∧ s2 ≤ 600 ∧ 0 ≤ s3 ∧ s3 ≤ 20 := by
  simp only [badSaw, Bool.or_eq_false_iff, decide_eq_false_iff_not, Bool.not_eq_false'] at h
  have := inB_iff.1 h.2
  omega
theorem checkF_ok {l : List St} {s1 s2 s3 : Int} (h : checkF l (s1, s2, s3) = 0) : l.length ≤ 60 ∧ l.any badSt = false ∧ lenF l ≤ 3000 ∧ 1 ≤ s1 ∧ s1 ≤ s2 ∧ s2 ≤ 600 ∧ 0 ≤ s3 ∧ s3 ≤ 20 := by
  unfold checkF at h
  split at h
  · cases h
  · rename_i h60
    split at h
    · cases h
    · rename_i hc
      simp only [Bool.or_eq_true, decide_eq_true_eq, not_or, Bool.not_eq_true] at hc
      have := badSaw_f hc.2
      exact ⟨by omega, hc.1.1, by omega, this⟩
theorem saw_ways (l : List St) (s1 s2 s3 : Int) : 3000 < lenF l ∨ (¬ 3000 < lenF l ∧ (s1 < 1 ∨ (¬ s1 < 1 ∧ (s2 < s1 ∨ (¬ s2 < s1 ∧ (600 < s2 ∨ (¬ 600 < s2 ∧ (inB s3 0 20 = false ∨ inB s3 0 20 = true)))))))) := by
  cases h : inB s3 0 20 <;> simp <;> omega
theorem lenF_append (a b : List St) : lenF (a ++ b) = lenF a + lenF b := by
  induction a with
  | nil => simp [lenF]
  | cons x a ih => simp [lenF, ih]; omega
theorem lenF_bd {l : List St} (h : l.any badSt = false) : 0 ≤ lenF l ∧ lenF l ≤ 3000 * l.length := by
  induction l with
  | nil => simp [lenF]
  | cons x l ih =>
    simp only [List.any_cons, Bool.or_eq_false_iff] at h
    have h1 := ih h.2
    have h2 : 1 ≤ x.1 ∧ x.1 ≤ 3000 := by
      have := h.1
      simp only [badSt, Bool.or_eq_false_iff, Bool.not_eq_false'] at this
      exact inB_iff.1 this.1
    simp only [lenF, List.length_cons]
    omega
theorem badSt_f {x : St} (h : badSt x = false) : 1 ≤ x.1 ∧ x.1 ≤ 3000 ∧ -1 ≤ x.2 ∧ x.2 ≤ 1000 := by
  simp only [badSt, Bool.or_eq_false_iff, Bool.not_eq_false'] at h
  have h1 := inB_iff.1 h.1
  have h2 := inB_iff.1 h.2
  omega
theorem any_take_f {α : Type} {p : α → Bool} {l : List α} (h : l.any p = false) (k : Nat) : (l.take k).any p = false := by
  rw [List.any_eq_false] at *
  exact fun x hx => h x (List.mem_of_mem_take hx)
theorem any_at_f {α : Type} {p : α → Bool} {l : List α} {k : Nat} {x : α} (h : l.any p = false) (hk : l[k]? = some x) : p x = false := by
  rw [List.any_eq_false] at h
  simpa using h x (List.mem_of_getElem? hk)
end Go.Proofs.Ytlkfcbdbieenhaa
