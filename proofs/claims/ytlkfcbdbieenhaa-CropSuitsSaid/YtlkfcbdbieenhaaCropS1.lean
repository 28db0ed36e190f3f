/-
  Plain law of chapter 7, suits: conflicts of at most four blocks; narrower ranges.
-/
import Derived.Test.YtlkfcbdbieenhaaCropTE
set_option linter.unusedSimpArgs false
set_option linter.unusedVariables false
namespace Go.Proofs.Ytlkfcbdbieenhaa
open Go.RowKit Go.Vm

/-- The lists are just the ascending ones. -/
theorem lsM_iff {n : Int} : ∀ {m : Nat} {f : Int} {js : List Int}, js ∈ lsM n m f ↔ js.length = m ∧ js.Pairwise (· < ·) ∧ ∀ j ∈ js, f ≤ j ∧ j < n
  | 0, f, js => by
    simp only [lsM, List.mem_singleton]
    constructor
    · rintro rfl
      simp
    · rintro ⟨h, _⟩
      exact List.eq_nil_of_length_eq_zero h
  | m + 1, f, js => by
    simp only [lsM, List.mem_flatMap, List.mem_range, List.mem_map]
    constructor
    · rintro ⟨i, hi, r, hr, rfl⟩
      obtain ⟨h1, h2, h3⟩ := lsM_iff.1 hr
      refine ⟨by simp [h1], List.pairwise_cons.2 ⟨fun x hx => by have := h3 x hx; omega, h2⟩, fun j hj => ?_⟩
      rcases List.mem_cons.1 hj with rfl | hj
      · omega
      · have := h3 j hj
        omega
    · rintro ⟨h1, h2, h3⟩
      cases js with
      | nil => simp at h1
      | cons j r =>
        have hj := h3 j (by simp)
        rw [List.pairwise_cons] at h2
        refine ⟨(j - f).toNat, by omega, r, lsM_iff.2 ⟨by simpa using h1, h2.2, fun x hx => ?_⟩, ?_⟩
        · have h4 := h2.1 x hx
          have h5 := h3 x (by simp [hx])
          omega
        · congr 1
          omega
theorem upN_asc : ∀ (m : Nat) (f : Int), (upN f m).Pairwise (· < ·)
  | 0, f => by simp [upN]
  | m + 1, f => by
    rw [upN, List.pairwise_cons]
    exact ⟨fun x hx => by have := upN_mem.1 hx; omega, upN_asc m _⟩
theorem filt_one {a : Int} {p : Int → Bool} : ∀ {xs : List Int}, xs.Pairwise (· < ·) → (xs.filter fun i => decide (i = a) || p i).length ≤ 1 + (xs.filter p).length
  | [], _ => by simp
  | x :: xs, h => by
    rw [List.pairwise_cons] at h
    have ih := filt_one (a := a) (p := p) h.2
    by_cases hx : x = a
    · subst hx
      have e : xs.filter (fun i => decide (i = x) || p i) = xs.filter p := List.filter_congr fun y hy => by
        have := h.1 y hy
        rw [decide_eq_false (by omega)]
        rfl
      rw [List.filter_cons_of_pos (by simp), List.length_cons, e]
      have : (xs.filter p).length ≤ ((x :: xs).filter p).length := by
        rw [List.filter_cons]
        split <;> simp
      omega
    · by_cases hp : p x = true
      · rw [List.filter_cons_of_pos (by simp [hp]), List.filter_cons_of_pos hp, List.length_cons, List.length_cons]
        omega
      · rw [List.filter_cons_of_neg (by simp [hp, hx]), List.filter_cons_of_neg hp]
        exact ih
/-- The block that has the greatest value of a kind. -/
theorem arg_max (f : Int → Int) : ∀ (js : List Int), js ≠ [] → ∃ a ∈ js, ∀ j ∈ js, f j ≤ f a
  | [], h => absurd rfl h
  | [j], _ => ⟨j, by simp, fun x hx => by simp at hx; subst hx; exact Int.le_refl _⟩
  | j :: k :: js, _ => by
    obtain ⟨a, h1, h2⟩ := arg_max f (k :: js) (by simp)
    by_cases h : f a ≤ f j
    · refine ⟨j, by simp, fun x hx => ?_⟩
      rcases List.mem_cons.1 hx with rfl | hx
      · exact Int.le_refl _
      · exact Int.le_trans (h2 x hx) h
    · refine ⟨a, List.mem_cons_of_mem _ h1, fun x hx => ?_⟩
      rcases List.mem_cons.1 hx with rfl | hx
      · omega
      · exact h2 x hx
/-- Four blocks suffice for a conflict. -/
theorem four {l : List Tl} {tol : Int} {js : List Int} (hj : js ≠ []) (h : apart l tol js = true) : ∃ a b c d, a ∈ js ∧ b ∈ js ∧ c ∈ js ∧ d ∈ js ∧ ∀ ks : List Int, (∀ k ∈ ks, k ∈ js) → a ∈ ks → b ∈ ks → c ∈ ks → d ∈ ks → apart l tol ks = true := by
  obtain ⟨a, ha, ha2⟩ := arg_max (fun j => (ofF (nth l j.toNat) tol).1) js hj
  obtain ⟨b, hb, hb2⟩ := arg_max (fun j => -(ofF (nth l j.toNat) tol).2.1) js hj
  obtain ⟨c, hc, hc2⟩ := arg_max (fun j => (ofF (nth l j.toNat) tol).2.2.1) js hj
  obtain ⟨d, hd, hd2⟩ := arg_max (fun j => -(ofF (nth l j.toNat) tol).2.2.2) js hj
  refine ⟨a, b, c, d, ha, hb, hc, hd, fun ks hk ka kb kc kd => ?_⟩
  have hkn : ks ≠ [] := List.ne_nil_of_mem ka
  unfold apart at h ⊢
  rw [Bool.not_eq_true'] at h ⊢
  cases hf : (firstF (sqL l tol ks)).2.2 with
  | false => rfl
  | true =>
    have h1 := (in_sqL hkn).1 (first_some hf).1
    refine absurd ((in_sqL hj).2 fun j hjj => ?_) ((first_none h).1 (firstF (sqL l tol ks)).1 (firstF (sqL l tol ks)).2.1)
    have q1 := ha2 j hjj
    have q2 := hb2 j hjj
    have q3 := hc2 j hjj
    have q4 := hd2 j hjj
    have p1 := h1 a ka
    have p2 := h1 b kb
    have p3 := h1 c kc
    have p4 := h1 d kd
    unfold inSq at *
    omega
theorem con_four {l : List Tl} {tol : Int} {n : Nat} {c : List Int} (h : conF (apart l tol) n n 1 = some c) : 1 ≤ c.length ∧ c.length ≤ 4 ∧ c.length ≤ n ∧ c.Pairwise (· < ·) ∧ (∀ j ∈ c, 0 ≤ j ∧ j < n) ∧ apart l tol c = true ∧ ∀ js : List Int, js ≠ [] → js.length < c.length → js.Pairwise (· < ·) → (∀ j ∈ js, 0 ≤ j ∧ j < n) → apart l tol js = false := by
  obtain ⟨k, h1, h2, h3, h4, h5⟩ := conF_mem _ _ h
  obtain ⟨g1, g2, g3⟩ := lsM_iff.1 h3
  have hmin : ∀ js : List Int, js ≠ [] → js.length < c.length → js.Pairwise (· < ·) → (∀ j ∈ js, 0 ≤ j ∧ j < n) → apart l tol js = false := fun js e1 e2 e3 e4 => by
    have hl : 0 < js.length := List.length_pos_iff.2 e1
    exact h5 js.length (by omega) (by omega) js (lsM_iff.2 ⟨rfl, e3, e4⟩)
  have hc0 : c ≠ [] := fun e => by subst e; simp at g1; omega
  refine ⟨by omega, ?_, by omega, g2, g3, h4, hmin⟩
  obtain ⟨a, b, cc, d, m1, m2, m3, m4, hF⟩ := four hc0 h4
  let ks := c.filter fun i => decide (i = a) || (decide (i = b) || (decide (i = cc) || decide (i = d)))
  have hsub : ∀ k ∈ ks, k ∈ c := fun k hk => (List.mem_filter.1 hk).1
  have hap := hF ks hsub (List.mem_filter.2 ⟨m1, by simp⟩) (List.mem_filter.2 ⟨m2, by simp⟩) (List.mem_filter.2 ⟨m3, by simp⟩) (List.mem_filter.2 ⟨m4, by simp⟩)
  have hlen : ks.length ≤ 4 := by
    have e1 := filt_one (a := a) (p := fun i => decide (i = b) || (decide (i = cc) || decide (i = d))) g2
    have e2 := filt_one (a := b) (p := fun i => decide (i = cc) || decide (i = d)) g2
    have e3 := filt_one (a := cc) (p := fun i => decide (i = d)) g2
    have e4 := filt_one (a := d) (p := fun _ => false) g2
    simp only [Bool.or_false] at e4
    have e5 : (c.filter fun _ => false).length = 0 := by simp
    show (c.filter _).length ≤ 4
    omega
  rcases Nat.lt_or_ge ks.length c.length with q | q
  · have := hmin ks (List.ne_nil_of_mem (List.mem_filter.2 ⟨m1, by simp⟩ : a ∈ ks)) q (List.Pairwise.filter _ g2) (fun j hj => g3 j (hsub j hj))
    rw [this] at hap
    cases hap
  · omega
/-- The law's suits. -/
def sutB (l : List Tl) (tol x y : Int) : Bool := (l.all fun t => decide ((offF t x y).2.2 = 0) && decide ((offF t x y).2.1 ≤ tol)) && decide (0 < l.length)
theorem off_iff {t : Tl} {tol x y : Int} (ht : tltB t = true) : (decide ((offF t x y).2.2 = 0) && decide ((offF t x y).2.1 ≤ tol)) = true ↔ ((-144000 ≤ x ∧ x ≤ 144000) ∧ (-144000 ≤ y ∧ y ≤ 144000)) ∧ inSq (ofF t tol) x y := by
  rw [← suits_sq ht]
  have hb := tlt_ok ht
  unfold offF suitsB
  rw [if_pos ht]
  cases h : (inT x (-144000) 144000 && inT y (-144000) 144000) with
  | false =>
    have : ¬ ((-144000 ≤ x ∧ x ≤ 144000) ∧ (-144000 ≤ y ∧ y ≤ 144000)) := fun hc => by
      unfold inT at h
      rw [decide_eq_true hc.1.1, decide_eq_true hc.1.2, decide_eq_true hc.2.1, decide_eq_true hc.2.2] at h
      cases h
    simp [this]
  | true =>
    rw [Bool.and_eq_true] at h
    have h1 := inT_ok h.1
    have h2 := inT_ok h.2
    rw [if_pos rfl, aw_most (by omega), aw_most (by omega)]
    simp only [decide_true, Bool.true_and, decide_eq_true_eq]
    exact ⟨fun h => ⟨⟨h1, h2⟩, h⟩, fun h => h.2⟩
theorem sut_iff {l : List Tl} {tol x y : Int} (hl : ∀ i, i < l.length → tltB (nth l i) = true) (h0 : l ≠ []) : sutB l tol x y = true ↔ ((-144000 ≤ x ∧ x ≤ 144000) ∧ (-144000 ≤ y ∧ y ≤ 144000)) ∧ inSq (sqL l tol (upN 0 l.length)) x y := by
  have hn : 0 < l.length := List.length_pos_iff.2 h0
  have hne : upN 0 l.length ≠ [] := fun e => by have := upN_len l.length 0; rw [e] at this; simp at this; omega
  have hm : ∀ t ∈ l, tltB t = true := fun t ht => by
    obtain ⟨i, hi, rfl⟩ := List.mem_iff_getElem.1 ht
    have := hl i hi
    rwa [← (List.getElem?_eq_some_iff.1 (get_nth hi)).2] at this
  have hsq : inSq (sqL l tol (upN 0 l.length)) x y ↔ ∀ t ∈ l, inSq (ofF t tol) x y := by
    rw [in_sqL hne]
    constructor
    · intro h t ht
      obtain ⟨i, hi, rfl⟩ := List.mem_iff_getElem.1 ht
      have := h i (upN_mem.2 (by omega))
      rwa [Int.toNat_natCast, ← (List.getElem?_eq_some_iff.1 (get_nth hi)).2] at this
    · intro h j hj
      have := upN_mem.1 hj
      exact h _ (nth_mem (by omega))
  rw [hsq]
  unfold sutB
  rw [Bool.and_eq_true, decide_eq_true_eq, List.all_eq_true]
  constructor
  · rintro ⟨h, _⟩
    refine ⟨((off_iff (hm _ (nth_mem hn))).1 (h _ (nth_mem hn))).1, fun t ht => ((off_iff (hm t ht)).1 (h t ht)).2⟩
  · rintro ⟨h1, h2⟩
    exact ⟨fun t ht => (off_iff (hm t ht)).2 ⟨h1, h2 t ht⟩, hn⟩
/-- A setting of valid blocks is accepted. -/
theorem sq_rng {l : List Tl} {tol x y : Int} (hl : ∀ i, i < l.length → tltB (nth l i) = true) (h0 : l ≠ []) (h1 : tol ≤ 36000) (h : inSq (sqL l tol (upN 0 l.length)) x y) : (-144000 ≤ x ∧ x ≤ 144000) ∧ (-144000 ≤ y ∧ y ≤ 144000) := by
  have hn : 0 < l.length := List.length_pos_iff.2 h0
  have hne : upN 0 l.length ≠ [] := fun e => by have := upN_len l.length 0; rw [e] at this; simp at this; omega
  have h2 := (in_sqL hne).1 h 0 (upN_mem.2 (by omega))
  have hb := tlt_ok (hl 0 hn)
  unfold inSq ofF at h2
  simp only [Int.toNat_zero] at h2
  omega
/-- Narrower ranges. -/
def lesF (b1 b2 : Bool) (t : Tl) : Tl := (if b1 = true ∧ t.1 < t.2.1 then t.1 + 1 else t.1, t.2.1, t.2.2.1, if b2 = true ∧ t.2.2.1 < t.2.2.2 then t.2.2.2 - 1 else t.2.2.2)
theorem les_ok {b1 b2 : Bool} {t : Tl} (h : tltB t = true) : tltB (lesF b1 b2 t) = true := by
  have := tlt_ok h
  unfold tltB angB lesF
  simp only [Bool.and_eq_true, decide_eq_true_eq]
  split <;> split <;> omega
theorem les_sq {b1 b2 : Bool} {t : Tl} {tol tol2 x y : Int} (h : tltB t = true) (h2 : tol ≤ tol2) (q : inSq (ofF t tol) x y) : inSq (ofF (lesF b1 b2 t) tol2) x y := by
  unfold inSq ofF lesF at *
  simp only at q ⊢
  split <;> split <;> omega
end Go.Proofs.Ytlkfcbdbieenhaa
