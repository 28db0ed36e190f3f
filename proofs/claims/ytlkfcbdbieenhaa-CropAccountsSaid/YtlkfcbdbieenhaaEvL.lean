/-
  A machine for closed runs, twelfth part: whoever stands before whom.
-/
import Derived.Test.YtlkfcbdbieenhaaEvK
namespace Go.Ev
open Go Go.RowKit

theorem fold_mask (ms : List Nat) (j : Nat) : ∀ (l : List Edge) (s : Nat), (l.foldl (fun s e => if Region.binds .any e then s ||| 2 ^ e.on ||| ms.getD e.on 0 else s) s).testBit j = true ↔ s.testBit j = true ∨ ∃ e ∈ l, Region.binds .any e = true ∧ (e.on = j ∨ (ms.getD e.on 0).testBit j = true) := by
  intro l
  induction l with
  | nil => intro s; simp
  | cons e r ih =>
    intro s
    simp only [List.foldl_cons]
    rw [ih]
    by_cases hb : Region.binds .any e = true
    · rw [if_pos hb, Nat.testBit_or, Nat.testBit_or, Nat.testBit_two_pow]
      simp only [Bool.or_eq_true, decide_eq_true_eq, List.mem_cons]
      constructor
      · rintro (((h | h) | h) | ⟨e', h1, h2⟩)
        · exact .inl h
        · exact .inr ⟨e, .inl rfl, hb, .inl h⟩
        · exact .inr ⟨e, .inl rfl, hb, .inr h⟩
        · exact .inr ⟨e', .inr h1, h2⟩
      · rintro (h | ⟨e', h1 | h1, h2, h3 | h3⟩)
        · exact .inl (.inl (.inl h))
        · subst h1; exact .inl (.inl (.inr h3))
        · subst h1; exact .inl (.inr h3)
        · exact .inr ⟨e', h1, h2, .inl h3⟩
        · exact .inr ⟨e', h1, h2, .inr h3⟩
    · rw [if_neg hb]
      simp only [List.mem_cons]
      constructor
      · rintro (h | ⟨e', h1, h2⟩)
        · exact .inl h
        · exact .inr ⟨e', .inr h1, h2⟩
      · rintro (h | ⟨e', h1 | h1, h2, h3⟩)
        · exact .inl h
        · subst h1; exact absurd h2 hb
        · exact .inr ⟨e', h1, h2, h3⟩

theorem masks_length : ∀ (l : List Oper) (acc : List Nat), (masks acc l).length = acc.length + l.length := by
  intro l
  induction l with
  | nil => intro acc; simp [masks]
  | cons o r ih => intro acc; simp only [masks]; rw [ih]; simp; omega
theorem masks_old : ∀ (l : List Oper) (acc : List Nat) (i : Nat), i < acc.length → (masks acc l).getD i 0 = acc.getD i 0 := by
  intro l
  induction l with
  | nil => intro acc i _; rfl
  | cons o r ih =>
    intro acc i hi
    simp only [masks]
    rw [ih _ _ (by simp; omega)]
    simp [List.getElem?_append_left hi]
theorem masks_at : ∀ (l : List Oper) (acc : List Nat) (k : Nat) (o : Oper), l[k]? = some o → ∃ pre : List Nat, (masks acc l).getD (acc.length + k) 0 = maskOf pre o ∧ pre.length = acc.length + k ∧ ∀ m, m < pre.length → pre.getD m 0 = (masks acc l).getD m 0 := by
  intro l
  induction l with
  | nil => intro acc k o h; simp at h
  | cons o' r ih =>
    intro acc k o h
    simp only [masks]
    cases k with
    | zero =>
      simp only [List.getElem?_cons_zero, Option.some.injEq] at h
      subst h
      refine ⟨acc, ?_, rfl, fun m hm => ?_⟩
      · rw [Nat.add_zero, masks_old _ _ _ (by simp)]
        simp
      · rw [masks_old _ _ _ (by simp; omega)]
        simp [List.getElem?_append_left hm]
    | succ k =>
      obtain ⟨pre, h1, h2, h3⟩ := ih (acc ++ [maskOf acc o']) k o (by simpa using h)
      refine ⟨pre, ?_, by rw [h2]; simp; omega, h3⟩
      rw [← h1]
      congr 1
      simp
      omega

section
variable {ops : Array Oper}

theorem slots_edges {ms : List Nat} (hs : slotsOk ops ms = true) {i : Nat} {o : Oper} (ho : ops[i]? = some o) {e : Edge} (he : e ∈ o.after) (hb : Region.binds .any e = true) : e.on < i := by
  unfold slotsOk at hs
  rw [List.all_eq_true] at hs
  have := hs (o, i) (List.mem_zipIdx_iff_getElem?.2 (by simpa using ho))
  simp only [Bool.and_eq_true] at this
  have h1 := List.all_eq_true.1 this.1 e (by simpa using he)
  rw [hb] at h1
  simpa using h1
theorem slots_ordered {ms : List Nat} (hs : slotsOk ops ms = true) {i j : Nat} {o oj : Oper} (ho : ops[i]? = some o) (hj : ops[j]? = some oj) (hne : j ≠ i) {d : Nat} (hd : oj.dst = some d) (ht : d ∈ touch ops o) : ordered ms j i = true := by
  unfold slotsOk at hs
  rw [List.all_eq_true] at hs
  have := hs (o, i) (List.mem_zipIdx_iff_getElem?.2 (by simpa using ho))
  simp only [Bool.and_eq_true] at this
  have h1 := List.all_eq_true.1 this.2 (oj, j) (List.mem_zipIdx_iff_getElem?.2 (by simpa using hj))
  simp only [hd, Bool.or_eq_true, decide_eq_true_eq, Bool.not_eq_true', hne, false_or] at h1
  rcases h1 with h1 | h1
  · rw [List.contains_iff_mem.2 ht] at h1
    cases h1
  · exact h1

theorem before_iff (hs : slotsOk ops (masks [] ops.toList) = true) {i j : Nat} : before (masks [] ops.toList) j i = true ↔ ∃ o, ops[i]? = some o ∧ ∃ e ∈ o.after, Region.binds .any e = true ∧ (e.on = j ∨ before (masks [] ops.toList) j e.on = true) := by
  unfold before
  by_cases hi : i < ops.size
  · have ho : ops[i]? = some ops[i] := Array.getElem?_eq_getElem hi
    obtain ⟨pre, h1, h2, h3⟩ := masks_at ops.toList [] i ops[i] (by simp)
    simp only [List.length_nil, Nat.zero_add] at h1 h2
    rw [h1]
    unfold maskOf
    rw [fold_mask]
    simp only [Nat.zero_testBit, Bool.false_eq_true, false_or, Array.mem_toList_iff]
    constructor
    · rintro ⟨e, he, hb, hc⟩
      refine ⟨_, ho, e, he, hb, hc.imp id fun hc => ?_⟩
      rw [← h3 e.on (by rw [h2]; exact slots_edges hs ho he hb)]
      exact hc
    · rintro ⟨o, ho', e, he, hb, hc⟩
      obtain rfl : ops[i] = o := Option.some.inj (ho.symm.trans ho')
      refine ⟨e, he, hb, hc.imp id fun hc => ?_⟩
      rw [h3 e.on (by rw [h2]; exact slots_edges hs ho he hb)]
      exact hc
  · have h0 : (masks [] ops.toList).getD i 0 = 0 := by
      rw [List.getD_eq_getElem?_getD, List.getElem?_eq_none (by rw [masks_length]; simp; omega)]
      rfl
    rw [h0, Array.getElem?_eq_none (by omega)]
    simp

theorem before_lt (hs : slotsOk ops (masks [] ops.toList) = true) : ∀ (i j : Nat), before (masks [] ops.toList) j i = true → j < i := by
  intro i
  induction i using Nat.strongRecOn with
  | _ i ih =>
    intro j hb
    obtain ⟨o, ho, e, he, hbi, h⟩ := (before_iff hs).1 hb
    have hlt := slots_edges hs ho he hbi
    rcases h with h | h
    · omega
    · have := ih e.on hlt j h; omega

theorem before_trans (hs : slotsOk ops (masks [] ops.toList) = true) : ∀ (i j m : Nat), before (masks [] ops.toList) j i = true → before (masks [] ops.toList) m j = true → before (masks [] ops.toList) m i = true := by
  intro i
  induction i using Nat.strongRecOn with
  | _ i ih =>
    intro j m hb hm
    obtain ⟨o, ho, e, he, hbi, h⟩ := (before_iff hs).1 hb
    have hlt := slots_edges hs ho he hbi
    refine (before_iff hs).2 ⟨o, ho, e, he, hbi, .inr ?_⟩
    rcases h with h | h
    · rw [h]; exact hm
    · exact ih e.on hlt j m h hm

/- what is done is closed: whoever is done, all before it are done -/
def Closed (ops : Array Oper) (D : Nat → Bool) : Prop := ∀ i o, ops[i]? = some o → D i = true → ∀ e ∈ o.after, Region.binds .any e = true → D e.on = true

theorem Closed.before (hs : slotsOk ops (masks [] ops.toList) = true) {D : Nat → Bool} (hc : Closed ops D) : ∀ (i j : Nat), D i = true → Ev.before (masks [] ops.toList) j i = true → D j = true := by
  intro i
  induction i using Nat.strongRecOn with
  | _ i ih =>
    intro j hi hb
    obtain ⟨o, ho, e, he, hbi, h⟩ := (before_iff hs).1 hb
    have hd := hc i o ho hi e he hbi
    rcases h with h | h
    · rw [← h]; exact hd
    · exact ih e.on (slots_edges hs ho he hbi) j hd h

theorem bar_ordered {ms : List Nat} {i j : Nat} {o oj : Oper} (hb : isBar ops ms i o = true) (hj : ops[j]? = some oj) (hne : j ≠ i) (hp : isPure oj.op = false) : ordered ms j i = true := by
  unfold isBar at hb
  simp only [Bool.and_eq_true] at hb
  have := List.all_eq_true.1 hb.2 (oj, j) (List.mem_zipIdx_iff_getElem?.2 (by simpa using hj))
  simpa [hne, hp] using this
end
end Go.Ev
