/-
  Chapter 11, plain: what a tool that was bad from earlier on taints.
-/
import Derived.Test.YtfmcdbcoljpomaaShopC4
set_option linter.unusedSimpArgs false
set_option linter.unusedVariables false
namespace Go.Proofs.Ytfmcdbcoljpomaa
open Go.RowKit Go.Vm
theorem nth_set {l : List Int} {i : Nat} {v : Int} (h : i < l.length) (j : Nat) : nth (l.set i v) j = if i = j then v else nth l j := by
  unfold nth
  rw [List.getD_eq_getElem?_getD, List.getD_eq_getElem?_getD, List.getElem?_set]
  split
  · rename_i e
    subst e
    simp [h]
  · rfl
/-- A touch that names what is there. -/
structure InB (p q : Nat) (x : Tc) : Prop where
  a : 0 ≤ x.1
  l : x.2.1 < p
  t0 : 0 ≤ x.2.2
  t : x.2.2 < q
theorem tn1 {s : List Int × List Int} {x : Tc} (h : InB s.1.length s.2.length x) (i : Nat) : nth (tnS s x).1 i = if 0 ≤ x.2.1 ∧ x.2.1.toNat = i ∧ 0 ≤ nth s.2 x.2.2.toNat ∧ nth s.1 x.2.1.toNat < 0 then x.1 else nth s.1 i := by
  have h1 := h.l
  unfold tnS
  by_cases c1 : x.2.1 < 0
  · rw [if_pos c1, if_neg (by omega)]
  rw [if_neg c1]
  by_cases c2 : 0 ≤ nth s.2 x.2.2.toNat ∧ nth s.1 x.2.1.toNat < 0
  · rw [if_pos c2]
    show nth (s.1.set _ _) i = _
    rw [nth_set (by omega)]
    by_cases c3 : x.2.1.toNat = i
    · rw [if_pos c3, if_pos ⟨by omega, c3, c2⟩]
    · rw [if_neg c3, if_neg (fun e => c3 e.2.1)]
  · rw [if_neg c2, if_neg (show ¬ (0 ≤ x.2.1 ∧ x.2.1.toNat = i ∧ 0 ≤ nth s.2 x.2.2.toNat ∧ nth s.1 x.2.1.toNat < 0) from fun e => c2 e.2.2)]
    split <;> rfl
theorem tn2 {s : List Int × List Int} {x : Tc} (h : InB s.1.length s.2.length x) (j : Nat) : nth (tnS s x).2 j = if x.2.1 < 0 ∧ x.2.2.toNat = j then -1 else if 0 ≤ x.2.1 ∧ x.2.2.toNat = j ∧ nth s.2 x.2.2.toNat < 0 ∧ 0 ≤ nth s.1 x.2.1.toNat then x.1 else nth s.2 j := by
  have h1 := h.t
  have h0 := h.t0
  unfold tnS
  by_cases c1 : x.2.1 < 0
  · rw [if_pos c1]
    show nth (s.2.set _ _) j = _
    rw [nth_set (by omega)]
    by_cases c3 : x.2.2.toNat = j
    · rw [if_pos c3, if_pos ⟨c1, c3⟩]
    · rw [if_neg c3, if_neg (show ¬ (x.2.1 < 0 ∧ x.2.2.toNat = j) from fun e => c3 e.2), if_neg (fun e => c3 e.2.1)]
  rw [if_neg c1, if_neg (show ¬ (x.2.1 < 0 ∧ x.2.2.toNat = j) from fun e => c1 e.1)]
  by_cases c2 : 0 ≤ nth s.2 x.2.2.toNat ∧ nth s.1 x.2.1.toNat < 0
  · rw [if_pos c2, if_neg (by omega)]
  rw [if_neg c2]
  by_cases c4 : nth s.2 x.2.2.toNat < 0 ∧ 0 ≤ nth s.1 x.2.1.toNat
  · rw [if_pos c4]
    show nth (s.2.set _ _) j = _
    rw [nth_set (by omega)]
    by_cases c3 : x.2.2.toNat = j
    · rw [if_pos c3, if_pos ⟨by omega, c3, c4⟩]
    · rw [if_neg c3, if_neg (fun e => c3 e.2.1)]
  · rw [if_neg c4, if_neg (fun e => c4 e.2.2)]
/-- All that is tainted by the first is tainted by the second, and not later. -/
structure TL (a c : List Int) : Prop where
  len : a.length = c.length
  le : ∀ i, i < a.length → 0 ≤ nth a i → 0 ≤ nth c i ∧ nth c i ≤ nth a i
theorem TL.rfl' (a : List Int) : TL a a := ⟨rfl, fun i _ h => ⟨h, Int.le_refl _⟩⟩
def TL2 (s s' : List Int × List Int) : Prop := TL s.1 s'.1 ∧ TL s.2 s'.2
def upTo (s : List Int × List Int) (t : Int) : Prop := (∀ i, i < s.1.length → nth s.1 i ≤ t) ∧ ∀ j, j < s.2.length → nth s.2 j ≤ t
theorem tn_mono {s s' : List Int × List Int} {x : Tc} (h : TL2 s s') (hx : InB s.1.length s.2.length x) (m : upTo s' x.1) : TL2 (tnS s x) (tnS s' x) := by
  have hx' : InB s'.1.length s'.2.length x := by rw [← h.1.len, ← h.2.len]; exact hx
  obtain ⟨q0, q1, q2, q3⟩ := hx
  have l1 := (tnS_len s x).1
  have l2 := (tnS_len s x).2
  have k1 := (tnS_len s' x).1
  have k2 := (tnS_len s' x).2
  have e1 := h.1.len
  have e2 := h.2.len
  have hl := h.1.le x.2.1.toNat
  have ht := h.2.le x.2.2.toNat
  refine ⟨⟨by omega, fun i hi => ?_⟩, ⟨by omega, fun j hj => ?_⟩⟩
  · rw [tn1 ⟨q0, q1, q2, q3⟩, tn1 hx']
    have hi1 := h.1.le i (by omega)
    have hm := m.1 i (by omega)
    by_cases c : 0 ≤ x.2.1 ∧ x.2.1.toNat = i
    · obtain ⟨c, rfl⟩ := c
      split <;> split <;> omega
    · rw [if_neg (by omega), if_neg (by omega)]
      exact hi1
  · rw [tn2 ⟨q0, q1, q2, q3⟩, tn2 hx']
    have hj1 := h.2.le j (by omega)
    have hm := m.2 j (by omega)
    by_cases c : x.2.2.toNat = j
    · subst c
      by_cases c1 : x.2.1 < 0
      · rw [if_pos ⟨c1, rfl⟩]
        omega
      · have := hl (by omega)
        rw [if_neg (by omega), if_neg (show ¬ (x.2.1 < 0 ∧ _) by omega)]
        split <;> split <;> omega
    · rw [if_neg (by omega), if_neg (by omega), if_neg (by omega), if_neg (by omega)]
      exact hj1
theorem tn_upTo {s : List Int × List Int} {x : Tc} {t : Int} (hx : InB s.1.length s.2.length x) (m : upTo s t) (h0 : -1 ≤ t) (ht : x.1 ≤ t) : upTo (tnS s x) t := by
  refine ⟨fun i hi => ?_, fun j hj => ?_⟩
  · rw [tn1 hx]
    rw [(tnS_len s x).1] at hi
    have := m.1 i hi
    split <;> omega
  · rw [tn2 hx]
    rw [(tnS_len s x).2] at hj
    have := m.2 j hj
    split
    · omega
    · split <;> omega
theorem upTo.le {s : List Int × List Int} {t u : Int} (h : upTo s t) (e : t ≤ u) : upTo s u := ⟨fun i hi => by have := h.1 i hi; omega, fun i hi => by have := h.2 i hi; omega⟩
/-- More that is tainted at some time taints more later on. -/
theorem fold_mono : ∀ {l : List Tc} {s s' : List Int × List Int} {t : Int}, (∀ x ∈ l, InB s.1.length s.2.length x) → l.Pairwise (fun x y => x.1 ≤ y.1) → (∀ x ∈ l, t ≤ x.1) → TL2 s s' → upTo s' t → TL2 (l.foldl tnS s) (l.foldl tnS s')
  | [], _, _, _, _, _, _, h, _ => h
  | x :: r, s, s', t, hb, hp, ht, h, m => by
    rw [List.pairwise_cons] at hp
    have hx := hb x (by simp)
    have m1 := m.le (ht x (by simp))
    have hx' : InB s'.1.length s'.2.length x := by rw [← h.1.len, ← h.2.len]; exact hx
    refine fold_mono (l := r) (s := tnS s x) (s' := tnS s' x) (t := x.1) (fun y hy => ?_) hp.2 hp.1 (tn_mono h hx m1) (tn_upTo hx' m1 (by have := hx.a; omega) (Int.le_refl _))
    rw [(tnS_len s x).1, (tnS_len s x).2]
    exact hb y (by simp [hy])
theorem fold_upTo : ∀ {l : List Tc} {s : List Int × List Int} {t : Int}, (∀ x ∈ l, InB s.1.length s.2.length x) → -1 ≤ t → (∀ x ∈ l, x.1 ≤ t) → upTo s t → upTo (l.foldl tnS s) t
  | [], _, _, _, _, _, h => h
  | x :: r, s, t, hb, h0, ht, h => by
    have hx := hb x (by simp)
    refine fold_upTo (l := r) (s := tnS s x) (fun y hy => ?_) h0 (fun y hy => ht y (by simp [hy])) (tn_upTo hx h h0 (ht x (by simp)))
    rw [(tnS_len s x).1, (tnS_len s x).2]
    exact hb y (by simp [hy])
theorem fold_len : ∀ {l : List Tc} {s : List Int × List Int}, (l.foldl tnS s).1.length = s.1.length ∧ (l.foldl tnS s).2.length = s.2.length
  | [], _ => ⟨rfl, rfl⟩
  | x :: r, s => by
    have := fold_len (l := r) (s := tnS s x)
    rw [(tnS_len s x).1, (tnS_len s x).2] at this
    exact this
/-- A cleaning that is not made. -/
theorem tn_clean {s : List Int × List Int} {x : Tc} (hx : InB s.1.length s.2.length x) (hc : x.2.1 < 0) : TL2 (tnS s x) s := by
  refine ⟨⟨(tnS_len s x).1, fun i hi => ?_⟩, ⟨(tnS_len s x).2, fun j hj => ?_⟩⟩
  · rw [tn1 hx, if_neg (by omega)]
    omega
  · rw [tn2 hx]
    split
    · omega
    · rw [if_neg (by omega)]
      omega
/-- What is tainted at the beginning: one tool. -/
def tn0 (p q bad : Nat) (since : Int) : List Int × List Int := (List.replicate p (-1), (List.replicate q (-1)).set bad since)
/-- What touches taint: those from since on. -/
def tnG (l : List Tc) (p q bad : Nat) (since : Int) : List Int × List Int :=
  (l.filter fun x => decide (since ≤ x.1)).foldl tnS (tn0 p q bad since)
theorem tnG_len (l : List Tc) (p q bad : Nat) (since : Int) : (tnG l p q bad since).1.length = p ∧ (tnG l p q bad since).2.length = q := by
  unfold tnG
  rw [fold_len.1, fold_len.2]
  simp [tn0]
theorem drop_filter {l : List Tc} {t : Int} {st : Nat} (h1 : st ≤ l.length) (h2 : ∀ q, q < st → (nth l q).1 < t) (h3 : ∀ q, st ≤ q → q < l.length → t ≤ (nth l q).1) : l.drop st = l.filter fun x => decide (t ≤ x.1) := by
  conv => rhs; rw [← List.take_append_drop st l]
  rw [List.filter_append, List.filter_eq_nil_iff.2, List.nil_append, List.filter_eq_self.2]
  · intro x hx
    obtain ⟨i, hi, e⟩ := List.mem_iff_getElem.1 hx
    rw [List.length_drop] at hi
    rw [List.getElem_drop] at e
    have h4 := h3 (st + i) (by omega) (by omega)
    have h5 : nth l (st + i) = x := nth_of (by rw [List.getElem?_eq_getElem (by omega), e])
    rw [h5] at h4
    exact decide_eq_true h4
  · intro x hx
    obtain ⟨i, hi, e⟩ := List.mem_iff_getElem.1 hx
    rw [List.length_take] at hi
    rw [List.getElem_take] at e
    have h4 := h2 i (by omega)
    have h5 : nth l i = x := nth_of (by rw [List.getElem?_eq_getElem (by omega), e])
    rw [h5] at h4
    simp only [decide_eq_true_eq]
    omega
theorem tnK_G {l : List Tc} {p q bad : Nat} {since : Int} {st : Nat} (h1 : st ≤ l.length) (h2 : ∀ q, q < st → (nth l q).1 < since) (h3 : ∀ q, st ≤ q → q < l.length → since ≤ (nth l q).1) : tnK l p q bad since st l.length = tnG l p q bad since := by
  rw [tnK_end, tnF, drop_filter h1 h2 h3]
  rfl
theorem nth_rep' (n i : Nat) : nth (List.replicate n (-1 : Int)) i < 0 ∨ n ≤ i := by
  by_cases h : i < n
  · exact .inl (by rw [nth_rep h]; decide)
  · exact .inr (by omega)
theorem tn0_1 (p q bad : Nat) (since : Int) {i : Nat} (h : i < p) : nth (tn0 p q bad since).1 i = -1 := nth_rep h
theorem tn0_2 {p q bad : Nat} {since : Int} (hb : bad < q) {i : Nat} (h : i < q) : nth (tn0 p q bad since).2 i = if bad = i then since else -1 := by
  show nth ((List.replicate q (-1)).set bad since) i = _
  rw [nth_set (by simpa using hb), nth_rep h]
/-- What holds of what is tainted ahead of any touch holds in the end. -/
theorem fold_inv {I : List Int × List Int → Prop} {p q : Nat} : ∀ {l : List Tc} {s : List Int × List Int}, (∀ x ∈ l, InB p q x) → s.1.length = p → s.2.length = q → I s → (∀ s x, x ∈ l → s.1.length = p → s.2.length = q → I s → I (tnS s x)) → I (l.foldl tnS s)
  | [], _, _, _, _, h, _ => h
  | x :: r, s, hb, h1, h2, h, st => by
    refine fold_inv (l := r) (fun y hy => hb y (by simp [hy])) (by rw [(tnS_len s x).1]; exact h1) (by rw [(tnS_len s x).2]; exact h2) (st s x (by simp) h1 h2 h) fun s y hy => st s y (by simp [hy])
/-- What is tainted was touched at that time. -/
theorem tn_met {l : List Tc} {p q bad : Nat} {since : Int} (hb : bad < q) (hl : ∀ x ∈ l, InB p q x) :
    (∀ i, i < p → 0 ≤ nth (tnG l p q bad since).1 i → ∃ x ∈ l, x.1 = nth (tnG l p q bad since).1 i ∧ x.2.1 = i) ∧
    (∀ j, j < q → 0 ≤ nth (tnG l p q bad since).2 j → (j = bad ∧ nth (tnG l p q bad since).2 j = since) ∨ ∃ x ∈ l, x.1 = nth (tnG l p q bad since).2 j ∧ 0 ≤ x.2.1 ∧ x.2.2 = j) := by
  refine fold_inv (I := fun s => (∀ i, i < p → 0 ≤ nth s.1 i → ∃ x ∈ l, x.1 = nth s.1 i ∧ x.2.1 = i) ∧ (∀ j, j < q → 0 ≤ nth s.2 j → (j = bad ∧ nth s.2 j = since) ∨ ∃ x ∈ l, x.1 = nth s.2 j ∧ 0 ≤ x.2.1 ∧ x.2.2 = j)) (p := p) (q := q) (fun x hx => hl x (List.mem_filter.1 hx).1) (by simp [tn0]) (by simp [tn0]) ⟨fun i hi h => ?_, fun j hj h => ?_⟩ fun s x hx h1 h2 h => ⟨fun i hi h3 => ?_, fun j hj h3 => ?_⟩
  · rw [tn0_1 _ _ _ _ hi] at h
    omega
  · rw [tn0_2 hb hj] at h ⊢
    by_cases e : bad = j
    · rw [if_pos e]
      exact .inl ⟨e.symm, rfl⟩
    · rw [if_neg e] at h
      omega
  · have hm := (List.mem_filter.1 hx).1
    have hb := hl x hm
    rw [← h1, ← h2] at hb
    rw [tn1 hb] at h3 ⊢
    split
    · rename_i c
      exact ⟨x, hm, rfl, by omega⟩
    · rename_i c
      rw [if_neg c] at h3
      exact h.1 i hi h3
  · have hm := (List.mem_filter.1 hx).1
    have hb' := hl x hm
    rw [← h1, ← h2] at hb'
    rw [tn2 hb'] at h3 ⊢
    split at h3
    · omega
    · rename_i c1
      split at h3
      · rename_i c2
        rw [if_neg c1, if_pos c2]
        have := hb'.t0
        exact .inr ⟨x, hm, rfl, c2.1, by omega⟩
      · rename_i c2
        rw [if_neg c1, if_neg c2]
        exact h.2 j hj h3
/-- Without any touch of the bad tool nothing else is tainted. -/
theorem tn_untouched {l : List Tc} {p q bad : Nat} {since : Int} (hb : bad < q) (hl : ∀ x ∈ l, InB p q x) (hn : ∀ x ∈ l, x.2.2 = bad → 0 ≤ x.2.1 → since ≤ x.1 → False) :
    (∀ i, i < p → nth (tnG l p q bad since).1 i < 0) ∧ (∀ j, j < q → 0 ≤ nth (tnG l p q bad since).2 j → j = bad ∧ nth (tnG l p q bad since).2 j = since) := by
  refine fold_inv (I := fun s => (∀ i, i < p → nth s.1 i < 0) ∧ (∀ j, j < q → 0 ≤ nth s.2 j → j = bad ∧ nth s.2 j = since)) (p := p) (q := q) (fun x hx => hl x (List.mem_filter.1 hx).1) (by simp [tn0]) (by simp [tn0]) ⟨fun i hi => ?_, fun j hj h => ?_⟩ fun s x hx h1 h2 h => ⟨fun i hi => ?_, fun j hj h3 => ?_⟩
  · rw [tn0_1 _ _ _ _ hi]
    decide
  · rw [tn0_2 hb hj] at h ⊢
    by_cases e : bad = j
    · rw [if_pos e]
      exact ⟨e.symm, rfl⟩
    · rw [if_neg e] at h
      omega
  · obtain ⟨hm, ht⟩ := List.mem_filter.1 hx
    simp only [decide_eq_true_eq] at ht
    have hx' := hl x hm
    obtain ⟨q0, q1, q2, q3⟩ := hx'
    rw [tn1 (by rw [h1, h2]; exact ⟨q0, q1, q2, q3⟩)]
    split
    · rename_i c
      have h4 := h.2 x.2.2.toNat (by omega) c.2.2.1
      exact (hn x hm (by omega) c.1 ht).elim
    · exact h.1 i hi
  · obtain ⟨hm, ht⟩ := List.mem_filter.1 hx
    have hx' := hl x hm
    obtain ⟨q0, q1, q2, q3⟩ := hx'
    rw [tn2 (by rw [h1, h2]; exact ⟨q0, q1, q2, q3⟩)] at h3 ⊢
    split at h3
    · omega
    · rename_i c1
      split at h3
      · rename_i c2
        have := h.1 x.2.1.toNat (by omega)
        omega
      · rename_i c2
        rw [if_neg c1, if_neg c2]
        exact h.2 j hj h3
theorem tn0_upTo {p q bad : Nat} {since t : Int} (hb : bad < q) (h0 : 0 ≤ since) (h : since ≤ t) : upTo (tn0 p q bad since) t := by
  refine ⟨fun i hi => ?_, fun j hj => ?_⟩
  · rw [tn0_1 _ _ _ _ (by simpa [tn0] using hi)]
    omega
  · rw [tn0_2 hb (by simpa [tn0] using hj)]
    split <;> omega
/-- A cleaning that is not made taints no less. -/
theorem tnG_erase {u v : List Tc} {x : Tc} {p q bad : Nat} {since : Int} (hb : bad < q) (h0 : 0 ≤ since) (hl : ∀ y ∈ u ++ x :: v, InB p q y) (hs : (u ++ x :: v).Pairwise (fun x y => x.1 ≤ y.1)) (hc : x.2.1 < 0) :
    TL2 (tnG (u ++ x :: v) p q bad since) (tnG (u ++ v) p q bad since) := by
  unfold tnG
  rw [List.filter_append, List.filter_append, List.foldl_append, List.foldl_append, List.filter_cons]
  split
  · rename_i hx
    simp only [decide_eq_true_eq] at hx
    rw [List.foldl_cons]
    have hl1 : ((u.filter fun x => decide (since ≤ x.1)).foldl tnS (tn0 p q bad since)).1.length = p := by rw [fold_len.1]; simp [tn0]
    have hl2 : ((u.filter fun x => decide (since ≤ x.1)).foldl tnS (tn0 p q bad since)).2.length = q := by rw [fold_len.2]; simp [tn0]
    have hxb := hl x (by simp)
    rw [List.pairwise_append] at hs
    obtain ⟨s1, s2, s3⟩ := hs
    rw [List.pairwise_cons] at s2
    refine fold_mono (t := x.1) (fun y hy => ?_) (s2.2.filter _) (fun y hy => s2.1 y (List.mem_filter.1 hy).1) (tn_clean (by rw [hl1, hl2]; exact hxb) hc) (fold_upTo (fun y hy => ?_) (by have := hxb.a; omega) (fun y hy => s3 y (List.mem_filter.1 hy).1 x (by simp)) (tn0_upTo hb h0 hx))
    · rw [(tnS_len _ x).1, (tnS_len _ x).2, hl1, hl2]
      exact hl y (by simp [(List.mem_filter.1 hy).1])
    · have := hl y (by simp [(List.mem_filter.1 hy).1])
      simpa [tn0] using this
  · exact ⟨TL.rfl' _, TL.rfl' _⟩
/-- From earlier on. -/
theorem filter_mid : ∀ {l : List Tc} {t u : Int}, t ≤ u → l.Pairwise (fun x y => x.1 ≤ y.1) → (l.filter fun x => decide (t ≤ x.1)) = (l.filter fun x => decide (t ≤ x.1) && decide (x.1 < u)) ++ l.filter fun x => decide (u ≤ x.1)
  | [], _, _, _, _ => rfl
  | x :: r, t, u, htu, h => by
    rw [List.pairwise_cons] at h
    have ih := filter_mid htu h.2
    rw [List.filter_cons, List.filter_cons, List.filter_cons]
    by_cases c1 : t ≤ x.1
    · by_cases c2 : x.1 < u
      · rw [if_pos (by simpa using c1), if_pos (by simp [c1, c2]), if_neg (by simp; omega), ih]
        rfl
      · rw [if_pos (by simpa using c1), if_neg (by simp [c2]), if_pos (by simp; omega)]
        have e1 : (r.filter fun x => decide (t ≤ x.1) && decide (x.1 < u)) = [] := List.filter_eq_nil_iff.2 fun y hy => by
          have := h.1 y hy
          simp only [Bool.and_eq_true, decide_eq_true_eq]
          omega
        rw [ih, e1]
        rfl
    · rw [if_neg (by simpa using c1), if_neg (by simp [c1]), if_neg (by simp; omega), ih]
theorem tnG_since {l : List Tc} {p q bad : Nat} {since t : Int} (hb : bad < q) (h0 : 0 ≤ t) (htu : t ≤ since) (hl : ∀ y ∈ l, InB p q y) (hs : l.Pairwise (fun x y => x.1 ≤ y.1)) (hc : ∀ x ∈ l, x.2.1 < 0 → x.2.2 = bad → t ≤ x.1 → x.1 < since → False) :
    TL2 (tnG l p q bad since) (tnG l p q bad t) := by
  unfold tnG
  rw [filter_mid (t := t) htu hs, List.foldl_append]
  have hmid : ∀ x ∈ (l.filter fun x => decide (t ≤ x.1) && decide (x.1 < since)), x ∈ l ∧ t ≤ x.1 ∧ x.1 < since := fun x hx => by
    obtain ⟨a, b⟩ := List.mem_filter.1 hx
    simpa using And.intro a b
  have hk : nth ((l.filter fun x => decide (t ≤ x.1) && decide (x.1 < since)).foldl tnS (tn0 p q bad t)).2 bad = t := by
    refine fold_inv (I := fun s => nth s.2 bad = t) (p := p) (q := q) (fun x hx => hl x (hmid x hx).1) (by simp [tn0]) (by simp [tn0]) (by rw [tn0_2 hb hb, if_pos rfl]) fun s x hx h1 h2 h => ?_
    obtain ⟨m1, m2, m3⟩ := hmid x hx
    have hx' := hl x m1
    obtain ⟨q0, q1, q2, q3⟩ := hx'
    rw [tn2 (by rw [h1, h2]; exact ⟨q0, q1, q2, q3⟩)]
    split
    · exact (hc x m1 (by omega) (by omega) m2 m3).elim
    · split
      · rename_i c
        have : x.2.2.toNat = bad := by omega
        rw [this, h] at c
        omega
      · exact h
  have hu : upTo ((l.filter fun x => decide (t ≤ x.1) && decide (x.1 < since)).foldl tnS (tn0 p q bad t)) since :=
    fold_upTo (fun y hy => by have := hl y (hmid y hy).1; simpa [tn0] using this) (by omega) (fun y hy => by have := (hmid y hy).2.2; omega) (tn0_upTo hb h0 htu)
  have n1 : ((l.filter fun x => decide (t ≤ x.1) && decide (x.1 < since)).foldl tnS (tn0 p q bad t)).1.length = p := by rw [fold_len.1]; simp [tn0]
  have n2 : ((l.filter fun x => decide (t ≤ x.1) && decide (x.1 < since)).foldl tnS (tn0 p q bad t)).2.length = q := by rw [fold_len.2]; simp [tn0]
  have o1 : (tn0 p q bad since).1.length = p := by simp [tn0]
  have o2 : (tn0 p q bad since).2.length = q := by simp [tn0]
  refine fold_mono (t := since) (fun y hy => ?_) (hs.filter _) (fun y hy => by simpa using (List.mem_filter.1 hy).2) ⟨⟨by rw [o1, n1], fun i hi h => ?_⟩, ⟨by rw [o2, n2], fun j hj h => ?_⟩⟩ hu
  · rw [o1, o2]
    exact hl y (List.mem_filter.1 hy).1
  · rw [tn0_1 _ _ _ _ (by omega)] at h
    omega
  · rw [tn0_2 hb (by omega)] at h ⊢
    by_cases e : bad = j
    · subst e
      rw [if_pos rfl, hk]
      omega
    · rw [if_neg e] at h
      omega
end Go.Proofs.Ytfmcdbcoljpomaa
