/-
  Plain law of chapter 7 on the best total: more worth and wider limits; a boule turned round; two boules behind each other.
-/
import Derived.Test.YtlkfcbdbieenhaaCropBM
set_option linter.unusedSimpArgs false
set_option linter.unusedVariables false
namespace Go.Proofs.Ytlkfcbdbieenhaa
open Go.RowKit

/-- The best total of a boule. -/
def bT (ws : List Int) (s1 s2 s3 : Int) : Int := (tabW ws s1 s2 s3 0).1
section
variable {ws ws' : List Int} {s1 s2 s3 s1' s2' s3' : Int}
theorem bT_ge (hw : ∀ x ∈ ws, -1 ≤ x ∧ x ≤ 1000) (hs1 : 1 ≤ s1) (hs3 : 0 ≤ s3) {bs : List Bl} (h : crpF ws s1 s2 s3 0 bs) : smB ws bs ≤ bT ws s1 s2 s3 :=
  tab_upper hw hs1 hs3 ws.length 0 (by omega) bs h
theorem bT_at (hw : ∀ x ∈ ws, -1 ≤ x ∧ x ≤ 1000) (hs1 : 1 ≤ s1) (hs3 : 0 ≤ s3) : ∃ bs, crpF ws s1 s2 s3 0 bs ∧ smB ws bs = bT ws s1 s2 s3 :=
  ⟨_, bw_crop hw hs1 hs3 (ws.length + 1) 0 (by omega) (by omega)⟩
theorem smB_cons (ws : List Int) (x : Bl) (bs : List Bl) : smB ws (x :: bs) = vlB ws x + smB ws bs := rfl
theorem smB_append (ws : List Int) (cs bs : List Bl) : smB ws (cs ++ bs) = smB ws cs + smB ws bs := by simp [smB]

/-! ### More worth, wider limits -/
theorem lsF_out {f j : Nat} (h : ws.length ≤ f + j) : lsF ws f (j + 1) = lsF ws f j := by
  unfold lsF
  rw [List.take_of_length_le (by simp; omega), List.take_of_length_le (by simp; omega)]
theorem lsF_mono (hl : ws'.length = ws.length) (hle : ∀ (i : Nat) (x x' : Int), ws[i]? = some x → ws'[i]? = some x' → x ≤ x') (f : Nat) : ∀ j, lsF ws f j ≤ lsF ws' f j
  | 0 => by rw [lsF_zero, lsF_zero]; exact Int.le_refl _
  | j + 1 => by
    have ih := lsF_mono hl hle f j
    rcases Nat.lt_or_ge (f + j) ws.length with h | h
    · obtain ⟨x, hx⟩ := getElem?_of_lt h
      obtain ⟨x', hx'⟩ := getElem?_of_lt (l := ws') (k := f + j) (by omega)
      have := hle _ _ _ hx hx'
      rw [lsF_succ hx, lsF_succ hx']
      omega
    · rw [lsF_out h, lsF_out (by omega)]
      exact ih
theorem crpF_mono (hl : ws'.length = ws.length) (hle : ∀ (i : Nat) (x x' : Int), ws[i]? = some x → ws'[i]? = some x' → x ≤ x') (h1 : s1' ≤ s1) (h2 : s2 ≤ s2') (h3 : s3' ≤ s3) : ∀ {bs : List Bl} {p : Int}, crpF ws s1 s2 s3 p bs → crpF ws' s1' s2' s3' p bs ∧ smB ws bs ≤ smB ws' bs
  | [], _, _ => ⟨trivial, Int.le_refl _⟩
  | x :: bs, p, ⟨g1, ⟨g2, g3, g4, g5, g6, g7⟩, g8⟩ => by
    have ih := crpF_mono hl hle h1 h2 h3 g8
    have hm := lsF_mono hl hle x.1.toNat (x.2 - x.1).toNat
    refine ⟨⟨g1, ⟨g2, g3, by omega, by omega, by omega, by omega⟩, crpF_le (by omega) ih.1⟩, ?_⟩
    rw [smB_cons, smB_cons]
    have : vlB ws x ≤ vlB ws' x := Int.mul_le_mul_of_nonneg_left hm (by omega)
    omega
theorem bT_mono (hw : ∀ x ∈ ws, -1 ≤ x ∧ x ≤ 1000) (hw' : ∀ x ∈ ws', -1 ≤ x ∧ x ≤ 1000) (hs1 : 1 ≤ s1') (hs3 : 0 ≤ s3') (hl : ws'.length = ws.length) (hle : ∀ (i : Nat) (x x' : Int), ws[i]? = some x → ws'[i]? = some x' → x ≤ x') (h1 : s1' ≤ s1) (h2 : s2 ≤ s2') (h3 : s3' ≤ s3) : bT ws s1 s2 s3 ≤ bT ws' s1' s2' s3' := by
  obtain ⟨bs, hb, hs⟩ := bT_at (s2 := s2) hw (Int.le_trans hs1 h1) (Int.le_trans hs3 h3)
  have := crpF_mono hl hle h1 h2 h3 hb
  rw [← hs]
  exact Int.le_trans this.2 (bT_ge hw' hs1 hs3 this.1)

/-! ### Turned round -/
theorem mnF_le (l : List Int) : mnF l ≤ 1000 := by
  induction l with
  | nil => simp [mnF]
  | cons x l ih => rw [mnF_cons]; omega
theorem mnF_append : ∀ a b : List Int, mnF (a ++ b) = min (mnF a) (mnF b)
  | [], b => by
    have := mnF_le b
    simp [mnF] at *
    omega
  | x :: a, b => by
    rw [List.cons_append, mnF_cons, mnF_append a b, mnF_cons]
    omega
theorem mnF_reverse : ∀ l : List Int, mnF l.reverse = mnF l
  | [] => rfl
  | x :: l => by rw [List.reverse_cons, mnF_snoc, mnF_reverse l, mnF_cons, Int.min_comm]
theorem lsF_rev {f t : Nat} (h1 : f ≤ t) (h2 : t ≤ ws.length) : lsF ws.reverse (ws.length - t) (t - f) = lsF ws f (t - f) := by
  unfold lsF
  rw [List.drop_reverse, List.take_reverse, mnF_reverse, show ws.length - (ws.length - t) = t from by omega, List.length_take, List.drop_take, show min t ws.length - (t - f) = f from by omega]
def rvB (n : Int) (x : Bl) : Bl := (n - x.2, n - x.1)
theorem okB_rev {x : Bl} (h : okB ws s1 s2 x) : okB ws.reverse s1 s2 (rvB ws.length x) ∧ vlB ws.reverse (rvB ws.length x) = vlB ws x := by
  obtain ⟨g2, g3, g4, g5, g6, g7⟩ := h
  have e1 : ((ws.length : Int) - x.1 - (ws.length - x.2)).toNat = x.2.toNat - x.1.toNat := by omega
  have e2 : ((ws.length : Int) - x.2).toNat = ws.length - x.2.toNat := by omega
  have e3 : (x.2 - x.1).toNat = x.2.toNat - x.1.toNat := by omega
  have hl : lsF ws.reverse ((ws.length : Int) - x.2).toNat ((ws.length : Int) - x.1 - (ws.length - x.2)).toNat = lsF ws x.1.toNat (x.2 - x.1).toNat := by
    rw [e1, e2, e3]
    exact lsF_rev (by omega) (by omega)
  refine ⟨⟨by simp only [rvB]; omega, by simp only [rvB]; omega, by simp only [rvB, List.length_reverse]; omega, by simp only [rvB]; omega, by simp only [rvB]; omega, by simp only [rvB]; rw [hl]; exact g7⟩, ?_⟩
  unfold vlB
  simp only [rvB]
  rw [hl]
  congr 1
  omega
/-- A block more at the end. -/
theorem crpF_snoc {x : Bl} (hx : okB ws s1 s2 x) (hs3 : 0 ≤ s3) : ∀ {cs : List Bl} {p : Int}, crpF ws s1 s2 s3 p cs → (∀ y ∈ cs, y.2 + s3 ≤ x.1) → p ≤ x.1 → crpF ws s1 s2 s3 p (cs ++ [x])
  | [], _, _, _, hp => ⟨hp, hx, trivial⟩
  | y :: cs, _, ⟨g1, g2, g3⟩, hy, _ => ⟨g1, g2, crpF_snoc hx hs3 g3 (fun z hz => hy z (List.mem_cons_of_mem _ hz)) (hy y List.mem_cons_self)⟩
theorem crpF_from (hs3 : 0 ≤ s3) : ∀ {cs : List Bl} {p : Int}, crpF ws s1 s2 s3 p cs → ∀ y ∈ cs, p ≤ y.1 ∧ okB ws s1 s2 y
  | x :: cs, p, ⟨g1, g2, g3⟩, y, hy => by
    rcases List.mem_cons.1 hy with rfl | hy
    · exact ⟨g1, g2⟩
    · have := crpF_from hs3 g3 y hy
      have := g2.2.1
      exact ⟨by omega, (crpF_from hs3 g3 y hy).2⟩
theorem crpF_rev (hs3 : 0 ≤ s3) : ∀ {bs : List Bl} {p : Int}, crpF ws s1 s2 s3 p bs → crpF ws.reverse s1 s2 s3 0 (bs.map (rvB ws.length)).reverse ∧ smB ws.reverse (bs.map (rvB ws.length)).reverse = smB ws bs
  | [], _, _ => ⟨trivial, rfl⟩
  | x :: bs, p, ⟨g1, g2, g3⟩ => by
    have ih := crpF_rev hs3 g3
    have hx := okB_rev g2
    have hf := crpF_from hs3 g3
    rw [List.map_cons, List.reverse_cons]
    refine ⟨crpF_snoc hx.1 hs3 ih.1 (fun y hy => ?_) hx.1.1, ?_⟩
    · obtain ⟨z, hz, rfl⟩ := List.mem_map.1 (List.mem_reverse.1 hy)
      have := (hf z hz).1
      simp only [rvB]
      omega
    · rw [smB_append, ih.2, smB_cons, smB_cons, hx.2]
      simp [smB]
      omega
theorem bT_rev_le (hw : ∀ x ∈ ws, -1 ≤ x ∧ x ≤ 1000) (hs1 : 1 ≤ s1) (hs3 : 0 ≤ s3) : bT ws s1 s2 s3 ≤ bT ws.reverse s1 s2 s3 := by
  obtain ⟨bs, hb, hs⟩ := bT_at (s2 := s2) hw hs1 hs3
  have := crpF_rev hs3 hb
  rw [← hs, ← this.2]
  exact bT_ge (fun x hx => hw x (List.mem_reverse.1 hx)) hs1 hs3 this.1
theorem bT_rev (hw : ∀ x ∈ ws, -1 ≤ x ∧ x ≤ 1000) (hs1 : 1 ≤ s1) (hs3 : 0 ≤ s3) : bT ws.reverse s1 s2 s3 = bT ws s1 s2 s3 := by
  have h1 := bT_rev_le (s2 := s2) hw hs1 hs3
  have h2 := bT_rev_le (s2 := s2) (ws := ws.reverse) (fun x hx => hw x (List.mem_reverse.1 hx)) hs1 hs3
  rw [List.reverse_reverse] at h2
  omega
end
end Go.Proofs.Ytlkfcbdbieenhaa
