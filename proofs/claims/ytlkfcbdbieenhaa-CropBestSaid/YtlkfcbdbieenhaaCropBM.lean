/-
  Plain law of chapter 7: the table's total is the greatest one of a cropping, and the blocks that it tells are such a cropping.
-/
import Derived.Test.YtlkfcbdbieenhaaCropB7
set_option linter.unusedSimpArgs false
set_option linter.unusedVariables false
namespace Go.Proofs.Ytlkfcbdbieenhaa
open Go.RowKit

/-- An allowed block, by the worth of each mm. -/
def okB (ws : List Int) (s1 s2 : Int) (x : Bl) : Prop := 0 ≤ x.1 ∧ x.1 < x.2 ∧ x.2 ≤ ws.length ∧ s1 ≤ x.2 - x.1 ∧ x.2 - x.1 ≤ s2 ∧ 0 ≤ lsF ws x.1.toNat (x.2 - x.1).toNat
def vlB (ws : List Int) (x : Bl) : Int := (x.2 - x.1) * lsF ws x.1.toNat (x.2 - x.1).toNat
/-- Croppings that begin at a place or behind it. -/
def crpF (ws : List Int) (s1 s2 s3 : Int) : Int → List Bl → Prop
  | _, [] => True
  | p, x :: bs => p ≤ x.1 ∧ okB ws s1 s2 x ∧ crpF ws s1 s2 s3 (x.2 + s3) bs
def smB (ws : List Int) (bs : List Bl) : Int := (bs.map (vlB ws)).sum
theorem crpF_le {ws : List Int} {s1 s2 s3 p q : Int} (hq : q ≤ p) : ∀ {bs : List Bl}, crpF ws s1 s2 s3 p bs → crpF ws s1 s2 s3 q bs
  | [], _ => trivial
  | _ :: _, ⟨h1, h2, h3⟩ => ⟨Int.le_trans hq h1, h2, h3⟩

theorem lsF_down {ws : List Int} {f i j : Nat} (hij : i ≤ j) : lsF ws f j ≤ lsF ws f i := by
  induction j with
  | zero => obtain rfl : i = 0 := by omega
            exact Int.le_refl _
  | succ j ih =>
    by_cases h : i = j + 1
    · subst h; exact Int.le_refl _
    · have h1 := ih (by omega)
      cases hx : ws[f + j]? with
      | some x => rw [lsF_succ hx]; omega
      | none =>
        have e : lsF ws f (j + 1) = lsF ws f j := by
          unfold lsF
          have hl : ws.length ≤ f + j := by
            rcases Nat.lt_or_ge (f + j) ws.length with h | h
            · rw [List.getElem?_eq_getElem h] at hx; cases hx
            · exact h
          rw [List.take_of_length_le (by simp; omega), List.take_of_length_le (by simp; omega)]
        omega
theorem comeF_mem {ws : List Int} {s1 : Int} {f : Nat} {x : Yd} : ∀ {j}, x ∈ comeF ws s1 f j ↔ ∃ i : Nat, i < j ∧ s1 ≤ (i : Int) + 1 ∧ x = ((f : Int), (f : Int) + 1 + i, ((i : Int) + 1) * lsF ws f (i + 1))
  | 0 => by simp [comeF]
  | j + 1 => by
    rw [comeF_succ, List.mem_append, comeF_mem]
    constructor
    · rintro (⟨i, h1, h2, h3⟩ | h)
      · exact ⟨i, by omega, h2, h3⟩
      · split at h
        · rename_i hs
          simp at h
          exact ⟨j, by omega, hs, h⟩
        · simp at h
    · rintro ⟨i, h1, h2, h3⟩
      by_cases hij : i = j
      · subst hij
        right
        rw [if_pos h2]
        simp [h3]
      · exact .inl ⟨i, by omega, h2, h3⟩
theorem roundsF_ge {ws : List Int} {f i : Nat} (h : 0 ≤ lsF ws f i) : ∀ k, i ≤ k → i ≤ roundsF ws f k
  | 0, hk => by omega
  | k + 1, hk => by
    unfold roundsF
    by_cases hik : i = k + 1
    · have hall : ∀ m, m < k → 0 ≤ lsF ws f (m + 1) := fun m hm => Int.le_trans h (lsF_down (by omega))
      rw [if_pos ⟨roundsF_all hall, by rw [← hik]; exact h⟩]
      omega
    · have := roundsF_ge h k (by omega)
      split <;> omega
/-- What comes from a place on: its allowed blocks, with their values. -/
theorem yF_mem {ws : List Int} {s1 s2 : Int} {f : Nat} (hs1 : 1 ≤ s1) (hf : f ≤ ws.length) {x : Yd} : x ∈ yF ws s1 s2 f ↔ x.1 = f ∧ okB ws s1 s2 ((f : Int), x.2.1) ∧ x.2.2 = vlB ws ((f : Int), x.2.1) := by
  unfold yF
  rw [comeF_mem]
  have hle := roundsF_le ws f (farF ws.length s2 f)
  constructor
  · rintro ⟨i, h1, h2, rfl⟩
    have hp := roundsF_pos _ _ h1
    have hfar : (i : Int) + 1 ≤ min s2 ((ws.length : Int) - f) := by unfold farF at *; omega
    have e1 : ((f : Int) + 1 + i - f).toNat = i + 1 := by omega
    have e2 : ((f : Int)).toNat = f := by omega
    refine ⟨rfl, ⟨by simp, by simp only; omega, by simp only; omega, by simp only; omega, by simp only; omega, ?_⟩, ?_⟩
    · simp only [e1, e2]; exact hp
    · unfold vlB
      simp only [e1, e2]
      congr 1
      omega
  · rintro ⟨h1, ⟨_, h3, h4, h5, h6, h7⟩, h8⟩
    obtain ⟨a, t, v⟩ := x
    simp only at h1 h3 h4 h5 h6 h7 h8
    subst h1 h8
    obtain ⟨i, hi⟩ : ∃ i : Nat, t = (f : Int) + 1 + i := ⟨(t - f - 1).toNat, by omega⟩
    subst hi
    have e1 : ((f : Int) + 1 + i - f).toNat = i + 1 := by omega
    have e2 : ((f : Int)).toNat = f := by omega
    rw [e1, e2] at h7
    refine ⟨i, ?_, by omega, ?_⟩
    · have := roundsF_ge h7 (farF ws.length s2 f) (by unfold farF; omega)
      omega
    · unfold vlB
      simp only [e1, e2]
      congr 3
      omega

section
variable {ws : List Int} {s1 s2 s3 : Int}
/-- A place's entry is laid once. -/
theorem tblF_stable {k i : Nat} (hi : ws.length - k ≤ i) : ∀ d, k + d ≤ ws.length → tblF ws s1 s2 s3 (k + d) i = tblF ws s1 s2 s3 k i
  | 0, _ => rfl
  | d + 1, h => by
    have ih := tblF_stable hi d (by omega)
    rw [← ih]
    show upR _ (ws.length - (k + d + 1)) _ i = _
    unfold upR
    rw [if_neg (by omega)]
    rfl
theorem stepR_congr {m m' : Nat → Rs} {n f : Nat} (hs3 : 0 ≤ s3) (hm : ∀ i, f < i → i ≤ n → m i = m' i) {b : Rs × Bool} {x : Yd} (hx : okY f n x) : stepR m s3 n b x = stepR m' s3 n b x := by
  obtain ⟨h1, h2, h3, _, _⟩ := hx
  have : m (min (x.2.1 + s3) n).toNat = m' (min (x.2.1 + s3) n).toNat := hm _ (by omega) (by omega)
  unfold stepR
  rw [this]
theorem bestF_congr {m m' : Nat → Rs} {n f : Nat} (hs3 : 0 ≤ s3) (hf : f < n) (hm : ∀ i, f < i → i ≤ n → m i = m' i) (l : List Yd) (hl : ∀ x ∈ l, okY f n x) : bestF m s3 n f l = bestF m' s3 n f l := by
  unfold bestF
  rw [hm (f + 1) (by omega) (by omega)]
  generalize (m' (f + 1), false) = b
  induction l generalizing b with
  | nil => rfl
  | cons x l ih =>
    rw [List.foldl_cons, List.foldl_cons, stepR_congr hs3 hm (hl x List.mem_cons_self)]
    exact ih (fun y hy => hl y (List.mem_cons_of_mem _ hy)) _
/-- The whole table. -/
def tabW (ws : List Int) (s1 s2 s3 : Int) : Nat → Rs := tblF ws s1 s2 s3 ws.length
theorem tab_eq (hw : ∀ x ∈ ws, -1 ≤ x ∧ x ≤ 1000) (hs3 : 0 ≤ s3) {p : Nat} (hp : p < ws.length) : tabW ws s1 s2 s3 p = (bestF (tabW ws s1 s2 s3) s3 ws.length p (yF ws s1 s2 p)).1 := by
  obtain ⟨k, hk⟩ : ∃ k, ws.length = p + (k + 1) := ⟨ws.length - p - 1, by omega⟩
  have e1 : tabW ws s1 s2 s3 p = tblF ws s1 s2 s3 (k + 1) p := by
    have := tblF_stable (ws := ws) (s1 := s1) (s2 := s2) (s3 := s3) (k := k + 1) (i := p) (by omega) p (by omega)
    rw [show k + 1 + p = ws.length from by omega] at this
    exact this
  rw [e1]
  show upR (tblF ws s1 s2 s3 k) (ws.length - (k + 1)) _ p = _
  have hpk : ws.length - (k + 1) = p := by omega
  unfold upR
  rw [hpk, if_pos rfl, bestF_congr hs3 hp (m' := tabW ws s1 s2 s3) (fun i h1 h2 => ?_) _ (yF_ok hw s1 s2 p (by omega))]
  have := tblF_stable (ws := ws) (s1 := s1) (s2 := s2) (s3 := s3) (k := k) (i := i) (by omega) (p + 1) (by omega)
  rw [show k + (p + 1) = ws.length from by omega] at this
  exact this.symm
theorem tab_end : tabW ws s1 s2 s3 ws.length = (0, 0, 0, 0) := by
  have := tblF_stable (ws := ws) (s1 := s1) (s2 := s2) (s3 := s3) (k := 0) (i := ws.length) (by omega) ws.length (by omega)
  rw [Nat.zero_add] at this
  exact this
/-- What a block gives with the best behind it. -/
def candF (m : Nat → Rs) (s3 : Int) (n : Nat) (x : Yd) : Rs := (x.2.2 + (m (min (x.2.1 + s3) n).toNat).1, 1 + (m (min (x.2.1 + s3) n).toNat).2.1, x.1, x.2.1)
theorem stepR_two (m : Nat → Rs) (n : Nat) (b : Rs × Bool) (x : Yd) : (stepR m s3 n b x).1 = b.1 ∨ (stepR m s3 n b x).1 = candF m s3 n x := by
  unfold stepR
  split
  · exact .inr rfl
  · exact .inl rfl
theorem stepR_ge (m : Nat → Rs) (n : Nat) (b : Rs × Bool) (x : Yd) : b.1.1 ≤ (stepR m s3 n b x).1.1 ∧ (candF m s3 n x).1 ≤ (stepR m s3 n b x).1.1 := by
  have hc : ∀ a : Rs, (0 < rcF a b.1 → b.1.1 ≤ a.1) ∧ (rcF a b.1 = 0 → a.1 = b.1.1) ∧ (rcF a b.1 < 0 → a.1 ≤ b.1.1) := fun a => by
    unfold rcF cmpF
    refine ⟨?_, ?_, ?_⟩ <;> (repeat' split) <;> intro h <;> omega
  have h := hc (candF m s3 n x)
  unfold stepR
  split
  · rename_i hh
    refine ⟨?_, Int.le_refl _⟩
    rcases hh with hh | ⟨hh, _⟩
    · exact h.1 hh
    · exact Int.le_of_eq (h.2.1 hh).symm
  · rename_i hh
    refine ⟨Int.le_refl _, ?_⟩
    rcases Int.lt_trichotomy (rcF (candF m s3 n x) b.1) 0 with h1 | h1 | h1
    · exact h.2.2 h1
    · exact Int.le_of_eq (h.2.1 h1)
    · exact absurd (Or.inl h1) hh
theorem fold_ge (m : Nat → Rs) (n : Nat) : ∀ (l : List Yd) (b : Rs × Bool), b.1.1 ≤ (l.foldl (stepR m s3 n) b).1.1 ∧ ∀ x ∈ l, (candF m s3 n x).1 ≤ (l.foldl (stepR m s3 n) b).1.1
  | [], b => ⟨Int.le_refl _, fun x hx => by cases hx⟩
  | y :: l, b => by
    have ih := fold_ge m n l (stepR m s3 n b y)
    have h := stepR_ge (s3 := s3) m n b y
    rw [List.foldl_cons]
    refine ⟨Int.le_trans h.1 ih.1, fun x hx => ?_⟩
    rcases List.mem_cons.1 hx with rfl | hx
    · exact Int.le_trans h.2 ih.1
    · exact ih.2 x hx
theorem fold_mem (m : Nat → Rs) (n : Nat) : ∀ (l : List Yd) (b : Rs × Bool), (l.foldl (stepR m s3 n) b).1 = b.1 ∨ ∃ x ∈ l, (l.foldl (stepR m s3 n) b).1 = candF m s3 n x
  | [], b => .inl rfl
  | y :: l, b => by
    rw [List.foldl_cons]
    rcases fold_mem m n l (stepR m s3 n b y) with h | ⟨x, hx, h⟩
    · rcases stepR_two (s3 := s3) m n b y with h2 | h2
      · exact .inl (h.trans h2)
      · exact .inr ⟨y, List.mem_cons_self, h.trans h2⟩
    · exact .inr ⟨x, List.mem_cons_of_mem _ hx, h⟩

theorem tab_ok (hw : ∀ x ∈ ws, -1 ≤ x ∧ x ≤ 1000) (hs3 : 0 ≤ s3) (i : Nat) (hi : i ≤ ws.length) : okR ws.length i (tabW ws s1 s2 s3 i) := tblF_ok hw hs3 _ (Nat.le_refl _) i hi

/-- NOTHING IS WORTH MORE. -/
theorem tab_upper (hw : ∀ x ∈ ws, -1 ≤ x ∧ x ≤ 1000) (hs1 : 1 ≤ s1) (hs3 : 0 ≤ s3) : ∀ (d p : Nat), p + d = ws.length → ∀ bs, crpF ws s1 s2 s3 p bs → smB ws bs ≤ (tabW ws s1 s2 s3 p).1
  | 0, p, hp, bs, h => by
    cases bs with
    | nil => exact (tab_ok hw hs3 p (by omega)).1
    | cons x bs =>
      obtain ⟨h1, ⟨h2, h3, h4, _⟩, _⟩ := h
      omega
  | d + 1, p, hp, bs, h => by
    have hpl : p < ws.length := by omega
    have he := tab_eq (s1 := s1) (s2 := s2) hw hs3 hpl
    have hfold := fold_ge (s3 := s3) (tabW ws s1 s2 s3) ws.length (yF ws s1 s2 p) (tabW ws s1 s2 s3 (p + 1), false)
    rw [he]
    cases bs with
    | nil =>
      have := (tab_ok (s1 := s1) (s2 := s2) hw hs3 p (by omega)).1
      rw [he] at this
      exact this
    | cons x bs =>
      obtain ⟨h1, h2, h3⟩ := h
      by_cases hx : x.1 = p
      · have hmem : ((p : Int), x.2, vlB ws ((p : Int), x.2)) ∈ yF ws s1 s2 p := (yF_mem hs1 (by omega)).2 ⟨rfl, by rw [← hx]; exact h2, rfl⟩
        have hc := hfold.2 _ hmem
        have hs : smB ws (x :: bs) = vlB ws x + smB ws bs := rfl
        have hxe : x = ((p : Int), x.2) := by rw [← hx]
        obtain ⟨g1, g2, g3, _⟩ := h2
        have hrest : smB ws bs ≤ (tabW ws s1 s2 s3 (min (x.2 + s3) ws.length).toNat).1 := by
          by_cases hq : x.2 + s3 ≤ ws.length
          · have e : ((min (x.2 + s3) (ws.length : Int)).toNat : Int) = x.2 + s3 := by omega
            refine tab_upper hw hs1 hs3 (ws.length - (min (x.2 + s3) ws.length).toNat) _ (by omega) bs ?_
            rw [e]
            exact h3
          · have hb : bs = [] := by
              cases bs with
              | nil => rfl
              | cons y bs =>
                obtain ⟨k1, ⟨_, k3, k4, _⟩, _⟩ := h3
                omega
            subst hb
            exact (tab_ok hw hs3 _ (by omega)).1
        rw [hs, hxe]
        unfold candF at hc
        simp only at hc
        exact Int.le_trans (Int.add_le_add_left hrest _) hc
      · have := tab_upper hw hs1 hs3 d (p + 1) (by omega) (x :: bs) ⟨by omega, h2, h3⟩
        exact Int.le_trans this hfold.1
termination_by d p => ws.length - p

/-- What an entry is: nothing, or a block with the best behind it. -/
theorem tab_good (hw : ∀ x ∈ ws, -1 ≤ x ∧ x ≤ 1000) (hs1 : 1 ≤ s1) (hs3 : 0 ≤ s3) : ∀ (d p : Nat), p + d = ws.length →
    tabW ws s1 s2 s3 p = (0, 0, 0, 0) ∨ ∃ x : Bl, (p : Int) ≤ x.1 ∧ okB ws s1 s2 x ∧ tabW ws s1 s2 s3 p = candF (tabW ws s1 s2 s3) s3 ws.length (x.1, x.2, vlB ws x)
  | 0, p, hp => by
    obtain rfl : p = ws.length := by omega
    exact .inl tab_end
  | d + 1, p, hp => by
    have hpl : p < ws.length := by omega
    have he := tab_eq (s1 := s1) (s2 := s2) hw hs3 hpl
    rcases fold_mem (s3 := s3) (tabW ws s1 s2 s3) ws.length (yF ws s1 s2 p) (tabW ws s1 s2 s3 (p + 1), false) with h | ⟨x, hx, h⟩
    · rcases tab_good hw hs1 hs3 d (p + 1) (by omega) with h2 | ⟨x, h1, h2, h3⟩
      · exact .inl (he.trans (h.trans h2))
      · exact .inr ⟨x, by omega, h2, he.trans (h.trans h3)⟩
    · obtain ⟨h1, h2, h3⟩ := (yF_mem hs1 (by omega)).1 hx
      refine .inr ⟨((p : Int), x.2.1), Int.le_refl _, h2, he.trans (h.trans ?_)⟩
      obtain ⟨a, t, v⟩ := x
      simp only at h1 h3
      subst h1 h3
      rfl

/-- THE BLOCKS THAT THE TABLE TELLS ARE A CROPPING WITH ITS TOTAL. -/
theorem bw_crop (hw : ∀ x ∈ ws, -1 ≤ x ∧ x ≤ 1000) (hs1 : 1 ≤ s1) (hs3 : 0 ≤ s3) : ∀ (k p : Nat), p ≤ ws.length → ws.length < p + k →
    crpF ws s1 s2 s3 p (bwF (tabW ws s1 s2 s3) s3 ws.length k p) ∧ smB ws (bwF (tabW ws s1 s2 s3) s3 ws.length k p) = (tabW ws s1 s2 s3 p).1
  | 0, p, h1, h2 => by omega
  | k + 1, p, h1, h2 => by
    rcases tab_good (s2 := s2) hw hs1 hs3 (ws.length - p) p (by omega) with h | ⟨x, hx1, hx2, hx3⟩
    · rw [bwF_end (by rw [h]; simp), h]
      exact ⟨trivial, rfl⟩
    · obtain ⟨g1, g2, g3, g4⟩ := hx2
      have hq := tab_ok (s1 := s1) (s2 := s2) hw hs3 (min (x.2 + s3) ws.length).toNat (by omega)
      have hpos : 0 < (tabW ws s1 s2 s3 p).2.1 := by
        rw [hx3]
        unfold candF
        have := hq.2.2.1
        simp only
        omega
      rw [bwF_step hpos]
      have e1 : (tabW ws s1 s2 s3 p).2.2.1 = x.1 := by rw [hx3]; rfl
      have e2 : (tabW ws s1 s2 s3 p).2.2.2 = x.2 := by rw [hx3]; rfl
      rw [e1, e2]
      have ih := bw_crop hw hs1 hs3 k (min (x.2 + s3) ws.length).toNat (by omega) (by omega)
      refine ⟨⟨hx1, ⟨g1, g2, g3, g4⟩, ?_⟩, ?_⟩
      · by_cases hq2 : x.2 + s3 ≤ ws.length
        · have e : ((min (x.2 + s3) (ws.length : Int)).toNat : Int) = x.2 + s3 := by omega
          have := ih.1
          rwa [e] at this
        · have e : (min (x.2 + s3) (ws.length : Int)).toNat = ws.length := by omega
          rw [e, bwF_end (by rw [tab_end]; simp)]
          trivial
      · show vlB ws x + smB ws _ = _
        rw [ih.2]
        conv => rhs; rw [hx3]
        rfl
end
end Go.Proofs.Ytlkfcbdbieenhaa
