/-
  Plain law of chapter 7 on the best total: two boules behind each other; and how the worth of each mm is made of stretches.
-/
import Derived.Test.YtlkfcbdbieenhaaCropBN
set_option linter.unusedSimpArgs false
set_option linter.unusedVariables false
namespace Go.Proofs.Ytlkfcbdbieenhaa
open Go.RowKit

section
variable {s1 s2 s3 : Int}
theorem lsF_le {ws : List Int} {f j i : Nat} {x : Int} (hx : ws[i]? = some x) (h1 : f ≤ i) (h2 : i < f + j) : lsF ws f j ≤ x := by
  obtain ⟨d, rfl⟩ : ∃ d, i = f + d := ⟨i - f, by omega⟩
  have h3 := lsF_down (ws := ws) (f := f) (i := d + 1) (j := j) (by omega)
  rw [lsF_succ hx] at h3
  omega
theorem lsF_left (a b : List Int) {f j : Nat} (h : f + j ≤ a.length) : lsF (a ++ b) f j = lsF a f j := by
  unfold lsF
  rw [List.drop_append_of_le_length (by omega), List.take_append_of_le_length (by rw [List.length_drop]; omega)]
theorem lsF_right (a b : List Int) (f j : Nat) : lsF (a ++ b) (a.length + f) j = lsF b f j := by
  unfold lsF
  rw [List.drop_append, List.drop_of_length_le (by omega), List.nil_append, show a.length + f - a.length = f from by omega]
def shB (d : Int) (x : Bl) : Bl := (x.1 + d, x.2 + d)
theorem okB_left {a : List Int} (b : List Int) {x : Bl} (h : okB a s1 s2 x) : okB (a ++ b) s1 s2 x ∧ vlB (a ++ b) x = vlB a x := by
  obtain ⟨g2, g3, g4, g5, g6, g7⟩ := h
  have hl : lsF (a ++ b) x.1.toNat (x.2 - x.1).toNat = lsF a x.1.toNat (x.2 - x.1).toNat := lsF_left a b (by omega)
  exact ⟨⟨g2, g3, by rw [List.length_append]; omega, g5, g6, by rw [hl]; exact g7⟩, by unfold vlB; rw [hl]⟩
theorem okB_left' {a b : List Int} {x : Bl} (h : okB (a ++ b) s1 s2 x) (hx : x.2 ≤ a.length) : okB a s1 s2 x ∧ vlB (a ++ b) x = vlB a x := by
  obtain ⟨g2, g3, g4, g5, g6, g7⟩ := h
  have hl : lsF (a ++ b) x.1.toNat (x.2 - x.1).toNat = lsF a x.1.toNat (x.2 - x.1).toNat := lsF_left a b (by omega)
  exact ⟨⟨g2, g3, hx, g5, g6, by rw [← hl]; exact g7⟩, by unfold vlB; rw [hl]⟩
theorem vl_right (a : List Int) {b : List Int} {x : Bl} (h : 0 ≤ x.1) : lsF (a ++ b) (x.1 + a.length).toNat (x.2 + a.length - (x.1 + a.length)).toNat = lsF b x.1.toNat (x.2 - x.1).toNat := by
  rw [show (x.1 + (a.length : Int)).toNat = a.length + x.1.toNat from by omega, show (x.2 + (a.length : Int) - (x.1 + a.length)) = x.2 - x.1 from by omega]
  exact lsF_right a b _ _
theorem okB_right (a : List Int) {b : List Int} {x : Bl} (h : okB b s1 s2 x) : okB (a ++ b) s1 s2 (shB a.length x) ∧ vlB (a ++ b) (shB a.length x) = vlB b x := by
  obtain ⟨g2, g3, g4, g5, g6, g7⟩ := h
  have hl := vl_right a (b := b) g2
  refine ⟨⟨by simp only [shB]; omega, by simp only [shB]; omega, by simp only [shB, List.length_append]; omega, by simp only [shB]; omega, by simp only [shB]; omega, by simp only [shB]; rw [hl]; exact g7⟩, ?_⟩
  unfold vlB
  simp only [shB]
  rw [hl]
  congr 1
  omega
theorem okB_right' {a b : List Int} {x : Bl} (h : okB (a ++ b) s1 s2 x) (hx : (a.length : Int) ≤ x.1) : okB b s1 s2 (shB (-a.length) x) ∧ vlB b (shB (-a.length) x) = vlB (a ++ b) x := by
  obtain ⟨g2, g3, g4, g5, g6, g7⟩ := h
  have hl := vl_right a (b := b) (x := shB (-a.length) x) (by simp only [shB]; omega)
  simp only [shB] at hl
  rw [show x.1 + -(a.length : Int) + a.length = x.1 from by omega, show x.2 + -(a.length : Int) + a.length = x.2 from by omega] at hl
  rw [List.length_append] at g4
  refine ⟨⟨by simp only [shB]; omega, by simp only [shB]; omega, by simp only [shB]; omega, by simp only [shB]; omega, by simp only [shB]; omega, by simp only [shB]; rw [← hl]; exact g7⟩, ?_⟩
  unfold vlB
  simp only [shB]
  rw [← hl]
  congr 1
  omega
theorem crpF_append {ws : List Int} : ∀ {cs ds : List Bl} {p q : Int}, crpF ws s1 s2 s3 p cs → crpF ws s1 s2 s3 q ds → (∀ y ∈ cs, y.2 + s3 ≤ q) → p ≤ q → crpF ws s1 s2 s3 p (cs ++ ds)
  | [], _, _, _, _, hd, _, hpq => crpF_le hpq hd
  | x :: cs, _, _, _, ⟨g1, g2, g3⟩, hd, hy, _ => ⟨g1, g2, crpF_append g3 hd (fun y h => hy y (List.mem_cons_of_mem _ h)) (hy x List.mem_cons_self)⟩
theorem crp_left {a : List Int} (b : List Int) : ∀ {bs : List Bl} {p : Int}, crpF a s1 s2 s3 p bs → crpF (a ++ b) s1 s2 s3 p bs ∧ smB (a ++ b) bs = smB a bs
  | [], _, _ => ⟨trivial, rfl⟩
  | x :: bs, p, ⟨g1, g2, g3⟩ => by
    have ih := crp_left b g3
    have hx := okB_left b g2
    exact ⟨⟨g1, hx.1, ih.1⟩, by rw [smB_cons, smB_cons, hx.2, ih.2]⟩
theorem crp_right (a : List Int) {b : List Int} : ∀ {bs : List Bl} {p : Int}, crpF b s1 s2 s3 p bs → crpF (a ++ b) s1 s2 s3 (p + a.length) (bs.map (shB a.length)) ∧ smB (a ++ b) (bs.map (shB a.length)) = smB b bs
  | [], _, _ => ⟨trivial, rfl⟩
  | x :: bs, p, ⟨g1, g2, g3⟩ => by
    have ih := crp_right a g3
    have hx := okB_right a g2
    rw [List.map_cons]
    refine ⟨⟨by simp only [shB]; omega, hx.1, ?_⟩, by rw [smB_cons, smB_cons, hx.2, ih.2]⟩
    have e : (shB a.length x).2 + s3 = x.2 + s3 + a.length := by simp only [shB]; omega
    rw [e]
    exact ih.1
theorem crp_right' {a b : List Int} (hs3 : 0 ≤ s3) : ∀ {bs : List Bl} {p : Int}, crpF (a ++ b) s1 s2 s3 p bs → (a.length : Int) ≤ p → crpF b s1 s2 s3 (p - a.length) (bs.map (shB (-a.length))) ∧ smB b (bs.map (shB (-a.length))) = smB (a ++ b) bs
  | [], _, _, _ => ⟨trivial, rfl⟩
  | x :: bs, p, ⟨g1, g2, g3⟩, hp => by
    have hlt := g2.2.1
    have ih := crp_right' hs3 g3 (by omega)
    have hx := okB_right' g2 (by omega)
    rw [List.map_cons]
    refine ⟨⟨by simp only [shB]; omega, hx.1, ?_⟩, by rw [smB_cons, smB_cons, hx.2, ih.2]⟩
    have e : (shB (-a.length) x).2 + s3 = x.2 + s3 - a.length := by simp only [shB]; omega
    rw [e]
    exact ih.1

/-- Two boules with a stretch between them that can not be used. -/
def catF (a : List Int) (k : Nat) (b : List Int) : List Int := (a ++ List.replicate (k + 1) (-1)) ++ b
theorem cat_split {a b : List Int} {k : Nat} {x : Bl} (h : okB (catF a k b) s1 s2 x) : x.2 ≤ a.length ∨ ((a ++ List.replicate (k + 1) (-1)).length : Int) ≤ x.1 := by
  obtain ⟨g2, g3, g4, g5, g6, g7⟩ := h
  by_cases h1 : x.2 ≤ a.length
  · exact .inl h1
  · right
    rw [List.length_append, List.length_replicate]
    refine Int.not_lt.1 fun hlt => ?_
    have hi : (catF a k b)[max x.1.toNat a.length]? = some (-1) := by
      unfold catF
      rw [List.getElem?_append_left (by rw [List.length_append, List.length_replicate]; omega), List.getElem?_append_right (by omega), List.getElem?_replicate, if_pos (by omega)]
    have := lsF_le (j := (x.2 - x.1).toNat) (f := x.1.toNat) hi (by omega) (by omega)
    omega
theorem cat_upper {a b : List Int} {k : Nat} (hs3 : 0 ≤ s3) : ∀ {bs : List Bl} {p : Int}, 0 ≤ p → crpF (catF a k b) s1 s2 s3 p bs → ∃ cs ds, crpF a s1 s2 s3 p cs ∧ crpF b s1 s2 s3 0 ds ∧ smB (catF a k b) bs = smB a cs + smB b ds
  | [], _, _, _ => ⟨[], [], trivial, trivial, by simp [smB]⟩
  | x :: bs, p, hp, ⟨g1, g2, g3⟩ => by
    have hlt := g2.2.1
    rcases cat_split g2 with h | h
    · obtain ⟨cs, ds, h1, h2, h3⟩ := cat_upper hs3 (by omega) g3
      have hx : okB a s1 s2 x ∧ vlB (catF a k b) x = vlB a x := by
        have g2' := g2
        unfold catF at g2' ⊢
        rw [List.append_assoc] at g2' ⊢
        exact okB_left' g2' h
      exact ⟨x :: cs, ds, ⟨g1, hx.1, h1⟩, h2, by rw [smB_cons, smB_cons, hx.2, h3]; omega⟩
    · have hr := crp_right' (a := a ++ List.replicate (k + 1) (-1)) (b := b) hs3 (bs := x :: bs) (p := x.1) ⟨Int.le_refl _, g2, g3⟩ h
      exact ⟨[], _, trivial, crpF_le (by omega) hr.1, by rw [hr.2]; simp [smB, catF]⟩
theorem bT_cat {a b : List Int} {k : Nat} (ha : ∀ x ∈ a, -1 ≤ x ∧ x ≤ 1000) (hb : ∀ x ∈ b, -1 ≤ x ∧ x ≤ 1000) (hs1 : 1 ≤ s1) (hk : s3 = k) : bT (catF a k b) s1 s2 s3 = bT a s1 s2 s3 + bT b s1 s2 s3 := by
  have hs3 : 0 ≤ s3 := by omega
  have hc : ∀ x ∈ catF a k b, -1 ≤ x ∧ x ≤ 1000 := fun x hx => by
    unfold catF at hx
    rcases List.mem_append.1 hx with hx | hx
    · rcases List.mem_append.1 hx with hx | hx
      · exact ha x hx
      · rw [(List.mem_replicate.1 hx).2]; omega
    · exact hb x hx
  obtain ⟨bs, h1, h2⟩ := bT_at (s2 := s2) hc hs1 hs3
  obtain ⟨cs, ds, g1, g2, g3⟩ := cat_upper hs3 (Int.le_refl _) h1
  have u1 := bT_ge ha hs1 hs3 g1
  have u2 := bT_ge hb hs1 hs3 g2
  obtain ⟨es, e1, e2⟩ := bT_at (s2 := s2) ha hs1 hs3
  obtain ⟨fs, f1, f2⟩ := bT_at (s2 := s2) hb hs1 hs3
  have l1 := crp_left (List.replicate (k + 1) (-1) ++ b) e1
  have l2 := crp_right (a ++ List.replicate (k + 1) (-1)) f1
  have hl : crpF (catF a k b) s1 s2 s3 0 (es ++ fs.map (shB (a ++ List.replicate (k + 1) (-1)).length)) := by
    have l1' := l1.1
    rw [← List.append_assoc] at l1'
    refine crpF_append l1' l2.1 (fun y hy => ?_) (by omega)
    have := (crpF_from hs3 e1 y hy).2.2.2.1
    rw [List.length_append, List.length_replicate]
    omega
  have u3 := bT_ge hc hs1 hs3 hl
  have l1s := l1.2
  rw [← List.append_assoc] at l1s
  have l2s := l2.2
  rw [smB_append] at u3
  have e3 : smB (catF a k b) es = smB a es := l1s
  have e4 : smB (catF a k b) (fs.map (shB (a ++ List.replicate (k + 1) (-1)).length)) = smB b fs := l2s
  omega
end
theorem wF_reverse (l : List St) : wF l.reverse = (wF l).reverse := by
  induction l with
  | nil => rfl
  | cons x l ih =>
    have e : wF (x :: l) = List.replicate x.1.toNat x.2 ++ wF l := by simp [wF]
    rw [List.reverse_cons, wF_append, ih, e, List.reverse_append, List.reverse_replicate]
    simp [wF]
theorem wF_cat (l l' : List St) (k : Nat) : wF (l ++ [((k : Int) + 1, -1)] ++ l') = catF (wF l) k (wF l') := by
  rw [wF_append, wF_append]
  have : wF [((k : Int) + 1, -1)] = List.replicate (k + 1) (-1) := by
    have e : ((k : Int) + 1).toNat = k + 1 := by omega
    simp [wF, e]
  rw [this]
  rfl
end Go.Proofs.Ytlkfcbdbieenhaa
