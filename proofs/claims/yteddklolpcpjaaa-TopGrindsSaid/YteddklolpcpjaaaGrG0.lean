/-
  Chapter 4 at the top, the plain part: the chart.
-/
import Derived.Test.YteddklolpcpjaaaGrA
set_option linter.unusedSimpArgs false
set_option linter.unusedVariables false
namespace Go.Proofs.Yteddklolpcpjaaa
open Go.RowKit Go.Vm
theorem nth_set {α : Type} [Inhabited α] {xs : List α} {i : Nat} (x : α) (h : i < xs.length) : nth (xs.set i x) i = x := by
  unfold nth; rw [List.getD_eq_getElem?_getD, List.getElem?_set_self h]; rfl
theorem nth_set_ne {α : Type} [Inhabited α] {xs : List α} {i j : Nat} (x : α) (h : i ≠ j) : nth (xs.set i x) j = nth xs j := by
  unfold nth; rw [List.getD_eq_getElem?_getD, List.getD_eq_getElem?_getD, List.getElem?_set_ne h]
theorem nth_map_range {α : Type} [Inhabited α] (f : Nat → α) {n i : Nat} (h : i < n) : nth ((List.range n).map f) i = f i := by
  unfold nth; rw [List.getD_eq_getElem?_getD, List.getElem?_map, List.getElem?_range h]; rfl
theorem ext_nth {α : Type} [Inhabited α] {xs ys : List α} (hl : xs.length = ys.length) (h : ∀ i, i < xs.length → nth xs i = nth ys i) : xs = ys := by
  apply List.ext_getElem?
  intro i
  by_cases c : i < xs.length
  · rw [get_nth c, get_nth (by omega), h i c]
  · rw [List.getElem?_eq_none (by omega), List.getElem?_eq_none (by omega)]
def noK : Kn := ⟨0, 0, false⟩
def seenF (S : List Sm) (N : Nat) : Nat → List Kn
  | 0 => List.replicate N noK
  | k + 1 => (seenF S N k).set (nth S k).a.toNat ⟨(nth S k).l, (nth S k).h, true⟩
theorem seenF_len (S : List Sm) (N : Nat) : ∀ k, (seenF S N k).length = N
  | 0 => List.length_replicate
  | k + 1 => by show ((seenF S N k).set _ _).length = N; rw [List.length_set, seenF_len S N k]
def bvF (Z : List Kn) (g s : Int) : Nat → Kn
  | 0 => nth Z 0
  | t + 1 => (nth Z (t + 1)).meet ((bvF Z g s t).later g s)
def fvF (Z : List Kn) (g s : Int) (E : Nat) : Nat → Kn
  | 0 => nth Z E
  | j + 1 => (nth Z (E - (j + 1))).meet ((fvF Z g s E j).later s g)
def bL (Z : List Kn) (g s : Int) (E : Nat) : List Kn := (List.range (E + 1)).map (bvF Z g s)
def fL (Z : List Kn) (g s : Int) (E : Nat) : List Kn := (List.range (E + 1)).map fun t => fvF Z g s E (E - t)
theorem bL_len (Z : List Kn) (g s : Int) (E : Nat) : (bL Z g s E).length = E + 1 := by unfold bL; rw [List.length_map, List.length_range]
theorem fL_len (Z : List Kn) (g s : Int) (E : Nat) : (fL Z g s E).length = E + 1 := by unfold fL; rw [List.length_map, List.length_range]
section
variable {S : List Sm} {g s : Int} {E : Nat}
theorem seen_says (H : SmOK S g s E) : ∀ k, k ≤ S.length → ∀ t, t ≤ E → Says S g s (fun x => x.a = t) t (nth (seenF S (E + 1) k) t)
  | 0, _, t, ht => by
    have : nth (seenF S (E + 1) 0) t = noK := by
      show nth (List.replicate (E + 1) noK) t = noK
      unfold nth
      rw [List.getD_eq_getElem?_getD, List.getElem?_replicate, if_pos (by omega)]; rfl
    rw [this]
    exact .inl ⟨rfl, rfl, rfl⟩
  | k + 1, hk, t, ht => by
    have ih := seen_says H k (by omega) t ht
    have b := H.bd k (by omega)
    show Says S g s _ t (nth ((seenF S (E + 1) k).set (nth S k).a.toNat _) t)
    by_cases c : (nth S k).a.toNat = t
    · rw [c, nth_set _ (by rw [seenF_len]; omega)]
      have ha : (nth S k).a = (t : Int) := by omega
      refine .inr ⟨rfl, ⟨k, by omega, ha, ?_⟩, k, by omega, ha, ?_⟩
      · unfold lowAt
        rw [if_pos (by omega), ha, Int.sub_self, Int.mul_zero, Int.sub_zero]
      · unfold highAt
        rw [if_pos (by omega), ha, Int.sub_self, Int.mul_zero, Int.add_zero]
    · rw [nth_set_ne _ c]; exact ih
theorem bv_says (H : SmOK S g s E) : ∀ t, t ≤ E → Says S g s (fun x => x.a ≤ t) t (bvF (seenF S (E + 1) S.length) g s t)
  | 0, h => by
    have := seen_says H S.length (Nat.le_refl _) 0 h
    rcases this with h | ⟨a, ⟨i, h3, h4, h5⟩, j, h6, h7, h8⟩
    · exact .inl h
    · exact .inr ⟨a, ⟨i, h3, by have : (nth S i).a = _ := h4; show (nth S i).a ≤ _; omega, h5⟩, j, h6, by have : (nth S j).a = _ := h7; show (nth S j).a ≤ _; omega, h8⟩
  | t + 1, h => by
    have ih := (bv_says H t (by omega)).later
    have e : ((t : Int) + 1) = ((t + 1 : Nat) : Int) := by omega
    rw [e] at ih
    exact (seen_says H S.length (Nat.le_refl _) (t + 1) h).meet ih (fun x (hx : x.a = _) => by show x.a ≤ _; omega) (fun x (hx : x.a ≤ _) => by show x.a ≤ _; omega)
theorem fv_says (H : SmOK S g s E) : ∀ j, j ≤ E → Says S g s (fun x => ((E - j : Nat) : Int) ≤ x.a) ((E - j : Nat) : Int) (fvF (seenF S (E + 1) S.length) g s E j)
  | 0, h => by
    have := seen_says H S.length (Nat.le_refl _) E (Nat.le_refl _)
    rcases this with h | ⟨a, ⟨i, h3, h4, h5⟩, j, h6, h7, h8⟩
    · exact .inl h
    · exact .inr ⟨a, ⟨i, h3, by have : (nth S i).a = _ := h4; show _ ≤ (nth S i).a; omega, h5⟩, j, h6, by have : (nth S j).a = _ := h7; show _ ≤ (nth S j).a; omega, h8⟩
  | j + 1, h => by
    have ih := fv_says H j (by omega)
    have e : ((E - j : Nat) : Int) = ((E - (j + 1) : Nat) : Int) + 1 := by omega
    rw [e] at ih
    have ih := ih.sooner
    exact (seen_says H S.length (Nat.le_refl _) (E - (j + 1)) (by omega)).meet ih (fun x (hx : x.a = _) => by show _ ≤ x.a; omega) (fun x (hx : _ ≤ x.a) => by show _ ≤ x.a; omega)
/-- What stands in the chart, and what is said from a second to the next one. -/
theorem chart_ok (H : SmOK S g s E) {t : Nat} (ht : t < E) (Z : List Kn) (hZ : Z = seenF S (E + 1) S.length) (hk : (btw g s (nth (bL Z g s E) t) (nth (fL Z g s E) (t + 1))).s = true) : (btw g s (nth (bL Z g s E) t) (nth (fL Z g s E) (t + 1))).l ≤ (btw g s (nth (bL Z g s E) t) (nth (fL Z g s E) (t + 1))).h := by
  subst hZ
  unfold bL fL at hk ⊢
  rw [nth_map_range _ (by omega), nth_map_range _ (by omega)] at hk ⊢
  have h1 := bv_says H t (by omega)
  have h2 := fv_says H (E - (t + 1)) (by omega)
  have e : ((E - (E - (t + 1)) : Nat) : Int) = (t : Int) + 1 := by omega
  rw [e] at h2
  exact btw_le H h1 h2 hk
theorem bL_bd (H : SmOK S g s E) {t : Nat} (ht : t ≤ E) : -200000000 ≤ (nth (bL (seenF S (E + 1) S.length) g s E) t).l ∧ (nth (bL (seenF S (E + 1) S.length) g s E) t).l ≤ 1000000 ∧ 0 ≤ (nth (bL (seenF S (E + 1) S.length) g s E) t).h ∧ (nth (bL (seenF S (E + 1) S.length) g s E) t).h ≤ 201000000 := by
  unfold bL
  rw [nth_map_range _ (by omega)]
  exact (bv_says H t ht).bd H (by omega) (by omega)
theorem fL_bd (H : SmOK S g s E) {t : Nat} (ht : t ≤ E) : -200000000 ≤ (nth (fL (seenF S (E + 1) S.length) g s E) t).l ∧ (nth (fL (seenF S (E + 1) S.length) g s E) t).l ≤ 1000000 ∧ 0 ≤ (nth (fL (seenF S (E + 1) S.length) g s E) t).h ∧ (nth (fL (seenF S (E + 1) S.length) g s E) t).h ≤ 201000000 := by
  unfold fL
  rw [nth_map_range _ (by omega)]
  exact (fv_says H (E - t) (by omega)).bd H (by omega) (by omega)
end
theorem peak_bd {a up b down : Int} (ha : -2000000000 ≤ a ∧ a ≤ 2000000000) (hb : -2000000000 ≤ b ∧ b ≤ 2000000000) (hu : 0 ≤ up ∧ up ≤ 1000000) (hd : 0 ≤ down ∧ down ≤ 1000000) : -100000000000000000 ≤ peakI a up b down ∧ peakI a up b down ≤ 100000000000000000 := by
  unfold peakI
  split
  · omega
  · split
    · omega
    · have m0 : 0 ≤ up * (b + down - a) := Int.mul_nonneg hu.1 (by omega)
      have m1 : up * (b + down - a) ≤ 1000000 * 5000000000 := Int.mul_le_mul hu.2 (by omega) (by omega) (by omega)
      have k0 := @ceil_nn (up * (b + down - a)) (up + down) (by omega)
      have k1 : ceilI (up * (b + down - a)) (up + down) ≤ up * (b + down - a) + (up + down) := by
        unfold ceilI
        split
        · have := Int.ediv_le_self (up + down) (show 0 ≤ up * (b + down - a) + (up + down) - 1 by omega)
          omega
        · omega
      omega
end Go.Proofs.Yteddklolpcpjaaa
