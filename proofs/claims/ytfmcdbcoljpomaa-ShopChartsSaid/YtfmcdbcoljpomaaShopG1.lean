/-
  Chapter 11, plain: alarms of the first values, of turned values, of stricter rules.
-/
import Derived.Test.YtfmcdbcoljpomaaShopF5
set_option linter.unusedSimpArgs false
set_option linter.unusedVariables false
namespace Go.Proofs.Ytfmcdbcoljpomaa
open Go.RowKit Go.Vm
theorem alF_take {c : Int} {rs : List Ru} {vs : List Int} {n : Nat} : ∀ k, k ≤ n → alF c rs (vs.take n) k = alF c rs vs k
  | 0, _ => rfl
  | k + 1, h => by
    rw [alF, alF, alF_take k (by omega), List.take_take, Nat.min_eq_left h]
theorem mem_at1 {c : Int} {r : Ru} {k : Int} {vs : List Int} {x : Al} (h : x ∈ at1 c r k vs) : x.1 = (vs.length : Int) - 1 ∧ x.2.1 = k ∧ (x.2.2 = 1 ∨ x.2.2 = -1) ∧ spkR c r x.2.2 vs = true := by
  unfold at1 at h
  rcases List.mem_append.1 h with h | h
  · split at h
    · rename_i hs
      rw [List.mem_singleton] at h
      subst h
      exact ⟨rfl, rfl, .inl rfl, hs⟩
    · cases h
  · split at h
    · rename_i hs
      rw [List.mem_singleton] at h
      subst h
      exact ⟨rfl, rfl, .inr rfl, hs⟩
    · cases h
theorem mem_atF {c : Int} {rs : List Ru} {vs : List Int} {x : Al} : ∀ {n : Nat}, x ∈ atF c rs vs n → x.1 = (vs.length : Int) - 1 ∧ (∃ k : Nat, k < n ∧ x.2.1 = k ∧ spkR c (nth rs k) x.2.2 vs = true) ∧ (x.2.2 = 1 ∨ x.2.2 = -1)
  | 0, h => by cases h
  | n + 1, h => by
    rw [atF] at h
    rcases List.mem_append.1 h with h | h
    · obtain ⟨h1, ⟨k, h2, h3⟩, h4⟩ := mem_atF h
      exact ⟨h1, ⟨k, by omega, h3⟩, h4⟩
    · obtain ⟨h1, h2, h3, h4⟩ := mem_at1 h
      exact ⟨h1, ⟨n, by omega, h2, h4⟩, h3⟩
theorem mem_alF {c : Int} {rs : List Ru} {vs : List Int} {x : Al} : ∀ {m : Nat}, m ≤ vs.length → x ∈ alF c rs vs m → ∃ i k : Nat, i < m ∧ k < rs.length ∧ x.1 = i ∧ x.2.1 = k ∧ (x.2.2 = 1 ∨ x.2.2 = -1) ∧ spkR c (nth rs k) x.2.2 (vs.take (i + 1)) = true
  | 0, _, h => by cases h
  | m + 1, hm, h => by
    rw [alF] at h
    rcases List.mem_append.1 h with h | h
    · obtain ⟨i, k, h1, h2⟩ := mem_alF (by omega) h
      exact ⟨i, k, by omega, h2⟩
    · obtain ⟨h1, ⟨k, h2, h3, h4⟩, h5⟩ := mem_atF h
      rw [List.length_take] at h1
      exact ⟨m, k, by omega, h2, by omega, h3, h5, h4⟩
/-- What speaks is an alarm. -/
theorem atF_mem {c : Int} {rs : List Ru} {vs : List Int} {k : Nat} {s : Int} (hs : s = 1 ∨ s = -1) (h : spkR c (nth rs k) s vs = true) : ∀ {n : Nat}, k < n → (((vs.length : Int) - 1), (k : Int), s) ∈ atF c rs vs n
  | 0, hk => by omega
  | n + 1, hk => by
    rw [atF, List.mem_append]
    by_cases hkn : k < n
    · exact .inl (atF_mem hs h hkn)
    · obtain rfl : k = n := by omega
      refine .inr ?_
      unfold at1
      rw [List.mem_append]
      rcases hs with rfl | rfl
      · exact .inl (by rw [if_pos h]; simp)
      · exact .inr (by rw [if_pos h]; simp)
theorem alF_mem {c : Int} {rs : List Ru} {vs : List Int} {i k : Nat} {s : Int} (hs : s = 1 ∨ s = -1) (hk : k < rs.length) (h : spkR c (nth rs k) s (vs.take (i + 1)) = true) : ∀ {m : Nat}, m ≤ vs.length → i < m → ((i : Int), (k : Int), s) ∈ alF c rs vs m
  | 0, _, hi => by omega
  | m + 1, hm, hi => by
    rw [alF, List.mem_append]
    by_cases him : i < m
    · exact .inl (alF_mem hs hk h (by omega) him)
    · obtain rfl : i = m := by omega
      have := atF_mem hs h hk
      rw [List.length_take, Nat.min_eq_left (by omega)] at this
      exact .inr (by simpa using this)
/-- The first values' alarms come first. -/
theorem alF_pre {c : Int} {rs : List Ru} {vs : List Int} {n : Nat} : ∀ {m : Nat}, n ≤ m → m ≤ vs.length → ∃ D, alF c rs vs m = alF c rs vs n ++ D ∧ ∀ x ∈ D, (n : Int) ≤ x.1
  | 0, h, _ => by
    obtain rfl : n = 0 := by omega
    exact ⟨[], by simp, fun x hx => by cases hx⟩
  | m + 1, h, hm => by
    by_cases hn : n ≤ m
    · obtain ⟨D, h1, h2⟩ := alF_pre (c := c) (rs := rs) (vs := vs) hn (by omega)
      refine ⟨D ++ atF c rs (vs.take (m + 1)) rs.length, by rw [alF, h1, List.append_assoc], fun x hx => ?_⟩
      rcases List.mem_append.1 hx with hx | hx
      · exact h2 x hx
      · have := (mem_atF hx).1
        rw [List.length_take] at this
        omega
    · obtain rfl : n = m + 1 := by omega
      exact ⟨[], by simp, fun x hx => by cases hx⟩
theorem alF_few {c : Int} {rs : List Ru} {vs : List Int} {n m : Nat} (hn : n ≤ m) (hm : m ≤ vs.length) : (alF c rs vs n).length ≤ (alF c rs vs m).length ∧ ∀ i, i < (alF c rs vs m).length → decide ((nth (alF c rs vs m) i).1 < (n : Int)) = decide (i < (alF c rs vs n).length) ∧ (i < (alF c rs vs n).length → nth (alF c rs vs n) i = nth (alF c rs vs m) i) := by
  obtain ⟨D, h1, h2⟩ := alF_pre (c := c) (rs := rs) hn hm
  rw [h1]
  refine ⟨by rw [List.length_append]; omega, fun i hi => ?_⟩
  by_cases h : i < (alF c rs vs n).length
  · have e : nth (alF c rs vs n ++ D) i = nth (alF c rs vs n) i := by
      unfold nth
      rw [List.getD_eq_getElem?_getD, List.getD_eq_getElem?_getD, List.getElem?_append_left h]
    obtain ⟨j, _, q1, _, q3, _⟩ := mem_alF (show n ≤ vs.length by omega) (nth_mem h)
    rw [e]
    exact ⟨by rw [decide_eq_true h, decide_eq_true (by omega)], fun _ => rfl⟩
  · have hl := hi
    rw [List.length_append] at hl
    have e : nth (alF c rs vs n ++ D) i ∈ D := by
      have : nth (alF c rs vs n ++ D) i = nth D (i - (alF c rs vs n).length) := by
        unfold nth
        rw [List.getD_eq_getElem?_getD, List.getD_eq_getElem?_getD, List.getElem?_append_right (by omega)]
      rw [this]
      exact nth_mem (by omega)
    have := h2 _ e
    exact ⟨by rw [decide_eq_false h, decide_eq_false (by omega)], fun e => absurd e h⟩
/-- Turned. -/
def ngA (x : Al) : Al := (x.1, x.2.1, -x.2.2)
theorem far_neg (c : Int) (r : Ru) (s v : Int) : farB (-c) r s (-v) = farB c r (-s) v := by
  unfold farB
  congr 1
  rw [show -v - -c = -(v - c) by omega, Int.mul_neg, Int.neg_mul]
theorem nth_neg {vs : List Int} {i : Nat} (h : i < vs.length) : nth (vs.map (- ·)) i = -nth vs i := by
  unfold nth
  rw [List.getD_eq_getElem?_getD, List.getD_eq_getElem?_getD, List.getElem?_map, List.getElem?_eq_getElem h]
  rfl
theorem spk_neg {c : Int} {r : Ru} {s : Int} {vs : List Int} (h : 1 ≤ vs.length) : spkR (-c) r s (vs.map (- ·)) = spkR c r (-s) vs := by
  have e : (farB (-c) r s ∘ fun x => -x) = farB c r (-s) := funext fun x => far_neg c r s x
  unfold spkR
  rw [List.length_map, nth_neg (by omega), far_neg, ← List.map_drop, List.countP_map, e]
theorem not_both {c : Int} {r : Ru} {vs : List Int} (hr : 0 ≤ r.2.2) (h1 : spkR c r 1 vs = true) (h2 : spkR c r (-1) vs = true) : False := by
  unfold spkR at h1 h2
  rw [Bool.and_eq_true] at h1 h2
  have a := h1.2
  have b := h2.2
  unfold farB at a b
  simp only [decide_eq_true_eq] at a b
  omega
theorem at1_neg {c : Int} {r : Ru} {k : Int} {vs : List Int} (hr : 0 ≤ r.2.2) (h : 1 ≤ vs.length) : at1 (-c) r k (vs.map (- ·)) = (at1 c r k vs).map ngA := by
  unfold at1
  rw [spk_neg h, spk_neg h, List.length_map, Int.neg_neg]
  have nb := not_both (c := c) (r := r) (vs := vs) hr
  cases h1 : spkR c r 1 vs <;> cases h2 : spkR c r (-1) vs
  · rfl
  · rfl
  · rfl
  · exact (nb h1 h2).elim
theorem atF_neg {c : Int} {rs : List Ru} {vs : List Int} (hr : ∀ r ∈ rs, ruOK r = true) (h : 1 ≤ vs.length) : ∀ {n : Nat}, n ≤ rs.length → atF (-c) rs (vs.map (- ·)) n = (atF c rs vs n).map ngA
  | 0, _ => rfl
  | n + 1, hn => by
    obtain ⟨_, _, _, r4, _⟩ := ruOK_ok (hr _ (nth_mem (show n < rs.length by omega)))
    rw [atF, atF, atF_neg hr h (by omega), at1_neg r4 h, List.map_append]
theorem alF_neg {c : Int} {rs : List Ru} {vs : List Int} (hr : ∀ r ∈ rs, ruOK r = true) : ∀ {m : Nat}, m ≤ vs.length → alF (-c) rs (vs.map (- ·)) m = (alF c rs vs m).map ngA
  | 0, _ => rfl
  | m + 1, hm => by
    rw [alF, alF, alF_neg hr (by omega), ← List.map_take, atF_neg hr (by rw [List.length_take]; omega) (Nat.le_refl _), List.map_append]
/-- A stricter rule. -/
def stR (even : Bool) (r : Ru) : Ru := if (decide (r.1 < r.2.1) && even) = true then (r.1 + 1, r.2.1, r.2.2) else if r.2.2 < 1000000 then (r.1, r.2.1, r.2.2 + 1) else r
theorem stR_ok {even : Bool} {r : Ru} (h : ruOK r = true) : ruOK (stR even r) = true := by
  obtain ⟨r1, r2, r3, r4, r5⟩ := ruOK_ok h
  obtain ⟨a, b, d⟩ := r
  simp only at r1 r2 r3 r4 r5
  unfold stR
  split
  · rename_i h1
    simp only [Bool.and_eq_true, decide_eq_true_eq] at h1
    unfold ruOK inT
    simp only [Bool.and_eq_true, decide_eq_true_eq]
    omega
  · split
    · rename_i h2
      unfold ruOK inT
      simp only [Bool.and_eq_true, decide_eq_true_eq]
      simp only at h2
      omega
    · exact h
theorem stR_spk {even : Bool} {c : Int} {r : Ru} {s : Int} {vs : List Int} (h : spkR c (stR even r) s vs = true) : spkR c r s vs = true := by
  obtain ⟨a, b, d⟩ := r
  have key : ∀ a' d', a ≤ a' → d ≤ d' → spkR c (a', b, d') s vs = true → spkR c (a, b, d) s vs = true := by
    intro a' d' h1 h2 h3
    unfold spkR at h3 ⊢
    simp only [Bool.and_eq_true, decide_eq_true_eq] at h3 ⊢
    have far : ∀ v, farB c (a', b, d') s v = true → farB c (a, b, d) s v = true := fun v hv => by
      unfold farB at hv ⊢
      simp only [decide_eq_true_eq] at hv ⊢
      omega
    refine ⟨?_, far _ h3.2⟩
    have := List.countP_mono_left (l := vs.drop ((vs.length : Int) - b).toNat) (p := farB c (a', b, d') s) (q := farB c (a, b, d) s) (fun x _ hx => far x hx)
    have h4 := h3.1
    omega
  unfold stR at h
  split at h
  · exact key _ _ (by show a ≤ a + 1; omega) (Int.le_refl _) h
  · split at h
    · exact key _ _ (Int.le_refl _) (by show d ≤ d + 1; omega) h
    · exact h
theorem nth_mapR {f : Ru → Ru} {rs : List Ru} {k : Nat} (h : k < rs.length) : nth (rs.map f) k = f (nth rs k) := by
  unfold nth
  rw [List.getD_eq_getElem?_getD, List.getD_eq_getElem?_getD, List.getElem?_map, List.getElem?_eq_getElem h]
  rfl
theorem strict_mem {even : Bool} {c : Int} {rs : List Ru} {vs : List Int} {x : Al} {m : Nat} (hm : m ≤ vs.length) (h : x ∈ alF c (rs.map (stR even)) vs m) : x ∈ alF c rs vs m := by
  obtain ⟨i, k, h1, h2, h3, h4, h5, h6⟩ := mem_alF hm h
  rw [List.length_map] at h2
  rw [nth_mapR h2] at h6
  obtain ⟨x1, x2, x3⟩ := x
  simp only at h3 h4 h5 h6
  subst h3 h4
  exact alF_mem h5 h2 (stR_spk h6) hm h1
/-- As many as the rule asks for. -/
theorem many_enough {c : Int} {r : Ru} {s : Int} {vs : List Int} {i : Nat} (hi : i < vs.length) (h : spkR c r s (vs.take (i + 1)) = true) : r.1 ≤ (((vs.take (i + 1)).drop ((i : Int) + 1 - r.2.1).toNat).countP (farB c r s) : Int) := by
  unfold spkR at h
  rw [Bool.and_eq_true, decide_eq_true_eq] at h
  have := h.1
  rw [List.length_take, Nat.min_eq_left (by omega)] at this
  exact this
/-- One value more towards the front. -/
theorem many_front {c : Int} {r : Ru} {s : Int} {vs : List Int} {i j : Nat} (hj : j ≤ i) (hi : i < vs.length) : ((vs.take (i + 1)).drop j).countP (farB c r s) = (if farB c r s (nth vs j) = true then 1 else 0) + ((vs.take (i + 1)).drop (j + 1)).countP (farB c r s) := by
  have hl : j < (vs.take (i + 1)).length := by rw [List.length_take]; omega
  have e : (vs.take (i + 1))[j] = nth vs j := by
    rw [List.getElem_take]
    exact (List.getElem?_eq_some_iff.1 (get_nth (by omega))).2
  rw [List.drop_eq_getElem_cons hl, List.countP_cons, e]
  omega
end Go.Proofs.Ytfmcdbcoljpomaa
