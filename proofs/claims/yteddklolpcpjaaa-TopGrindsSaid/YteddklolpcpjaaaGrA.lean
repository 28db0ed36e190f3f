/-
  Chapter 4 at the top, the plain part: what is known of a diameter by samples that do not contradict each other is never empty.
-/
import Derived.Test.YteddklolpcpjaaaMd
set_option linter.unusedSimpArgs false
set_option linter.unusedVariables false
namespace Go.Proofs.Yteddklolpcpjaaa
open Go.RowKit Go.Vm
/-- A sample: when, and between which numbers. -/
structure Sm where
  (a l h : Int)
instance : Inhabited Sm := ⟨⟨0, 0, 0⟩⟩
/-- What is known. -/
structure Kn where
  (l h : Int)
  (s : Bool)
instance : Inhabited Kn := ⟨⟨0, 0, false⟩⟩
def Kn.meet (k o : Kn) : Kn := if o.s = false then k else if k.s = false then o else ⟨max k.l o.l, min k.h o.h, true⟩
def Kn.later (k : Kn) (g s : Int) : Kn := ⟨k.l - s, k.h + g, k.s⟩
def ceilI (a b : Int) : Int := if a > 0 then (a + b - 1) / b else 0
def peakI (a up b down : Int) : Int := if a ≥ b + down then b + down else if a + up ≤ b then a + up else a + ceilI (up * (b + down - a)) (up + down)
/-- Samples that are in order, in bounds, and do not contradict each other. -/
structure SmOK (S : List Sm) (g s : Int) (E : Nat) : Prop where
  g1 : 0 ≤ g ∧ g ≤ 1000000
  s1 : 0 ≤ s ∧ s ≤ 1000000
  E1 : E ≤ 200
  bd : ∀ i, i < S.length → 0 ≤ (nth S i).a ∧ (nth S i).a ≤ E ∧ 0 ≤ (nth S i).l ∧ (nth S i).l ≤ (nth S i).h ∧ (nth S i).h ≤ 1000000
  up : ∀ j, j < S.length → ∀ i, i < j → (nth S i).a < (nth S j).a
  no : ∀ j, j < S.length → ∀ i, i < j → ¬ ((nth S i).h + g * ((nth S j).a - (nth S i).a) < (nth S j).l ∨ (nth S i).l - s * ((nth S j).a - (nth S i).a) > (nth S j).h)
/-- What a sample says below and above at a time. -/
def lowAt (g s : Int) (x : Sm) (t : Int) : Int := if t ≥ x.a then x.l - s * (t - x.a) else x.l - g * (x.a - t)
def highAt (g s : Int) (x : Sm) (t : Int) : Int := if t ≥ x.a then x.h + g * (t - x.a) else x.h + s * (x.a - t)
section
variable {S : List Sm} {g s : Int} {E : Nat}
theorem lowhigh (H : SmOK S g s E) {i j : Nat} (hi : i < S.length) (hj : j < S.length) (t : Int) : lowAt g s (nth S i) t ≤ highAt g s (nth S j) t := by
  have bi := H.bd i hi
  have bj := H.bd j hj
  have g0 := H.g1.1
  have s0 := H.s1.1
  unfold lowAt highAt
  rcases Nat.lt_trichotomy i j with c | c | c
  · have n := H.no j hj i c
    have u := H.up j hj i c
    generalize nth S i = x at *
    generalize nth S j = y at *
    obtain ⟨xa, xl, xh⟩ := x
    obtain ⟨ya, yl, yh⟩ := y
    simp only at *
    -- lo_i - s (aj - ai) ≤ hj
    have h1 : xl - s * (ya - xa) ≤ yh := by omega
    by_cases c1 : t ≥ ya
    · rw [if_pos (show t ≥ xa by omega), if_pos c1]
      have e : s * (t - xa) = s * (t - ya) + s * (ya - xa) := by rw [← Int.mul_add]; congr 1; omega
      have p : 0 ≤ s * (t - ya) := Int.mul_nonneg s0 (by omega)
      have q : 0 ≤ g * (t - ya) := Int.mul_nonneg g0 (by omega)
      omega
    · by_cases c2 : t ≥ xa
      · rw [if_pos c2, if_neg c1]
        have e : s * (ya - xa) = s * (t - xa) + s * (ya - t) := by rw [← Int.mul_add]; congr 1; omega
        omega
      · rw [if_neg c2, if_neg c1]
        have e : s * (ya - t) = s * (xa - t) + s * (ya - xa) := by rw [← Int.mul_add]; congr 1; omega
        have p : 0 ≤ s * (xa - t) := Int.mul_nonneg s0 (by omega)
        have q : 0 ≤ g * (xa - t) := Int.mul_nonneg g0 (by omega)
        omega
  · subst c
    generalize nth S i = x at *
    obtain ⟨xa, xl, xh⟩ := x
    simp only at *
    by_cases c1 : t ≥ xa
    · rw [if_pos c1, if_pos c1]
      have p : 0 ≤ s * (t - xa) := Int.mul_nonneg s0 (by omega)
      have q : 0 ≤ g * (t - xa) := Int.mul_nonneg g0 (by omega)
      omega
    · rw [if_neg c1, if_neg c1]
      have p : 0 ≤ s * (xa - t) := Int.mul_nonneg s0 (by omega)
      have q : 0 ≤ g * (xa - t) := Int.mul_nonneg g0 (by omega)
      omega
  · have n := H.no i hi j c
    have u := H.up i hi j c
    generalize nth S i = x at *
    generalize nth S j = y at *
    obtain ⟨xa, xl, xh⟩ := x
    obtain ⟨ya, yl, yh⟩ := y
    simp only at *
    have h1 : xl ≤ yh + g * (xa - ya) := by omega
    by_cases c1 : t ≥ xa
    · rw [if_pos c1, if_pos (show t ≥ ya by omega)]
      have e : g * (t - ya) = g * (t - xa) + g * (xa - ya) := by rw [← Int.mul_add]; congr 1; omega
      have p : 0 ≤ s * (t - xa) := Int.mul_nonneg s0 (by omega)
      have q : 0 ≤ g * (t - xa) := Int.mul_nonneg g0 (by omega)
      omega
    · by_cases c2 : t ≥ ya
      · rw [if_neg c1, if_pos c2]
        have e : g * (xa - ya) = g * (t - ya) + g * (xa - t) := by rw [← Int.mul_add]; congr 1; omega
        omega
      · rw [if_neg c1, if_neg c2]
        have e : g * (xa - t) = g * (ya - t) + g * (xa - ya) := by rw [← Int.mul_add]; congr 1; omega
        have p : 0 ≤ s * (ya - t) := Int.mul_nonneg s0 (by omega)
        have q : 0 ≤ g * (ya - t) := Int.mul_nonneg g0 (by omega)
        omega
/-- What is known is what samples say at this time: at no time of these is a sample left out (before: those up to a time). -/
def Says (S : List Sm) (g s : Int) (P : Sm → Prop) (t : Int) (k : Kn) : Prop :=
  (k.s = false ∧ k.l = 0 ∧ k.h = 0) ∨ (k.s = true ∧ (∃ i, i < S.length ∧ P (nth S i) ∧ k.l = lowAt g s (nth S i) t) ∧ ∃ j, j < S.length ∧ P (nth S j) ∧ k.h = highAt g s (nth S j) t)
theorem Says.meet {P Q R : Sm → Prop} {t : Int} {k o : Kn} (h1 : Says S g s P t k) (h2 : o.s = false ∨ Says S g s Q t o) (hp : ∀ x, P x → R x) (hq : ∀ x, Q x → R x) : Says S g s R t (k.meet o) := by
  have wk : Says S g s R t k := by
    rcases h1 with h1 | ⟨a, ⟨i, h3, h4, h5⟩, j, h6, h7, h8⟩
    · exact .inl h1
    · exact .inr ⟨a, ⟨i, h3, hp _ h4, h5⟩, j, h6, hp _ h7, h8⟩
  unfold Kn.meet
  by_cases c1 : o.s = false
  · rw [if_pos c1]; exact wk
  rw [if_neg c1]
  have wo : Says S g s R t o := by
    rcases h2 with h2 | h2
    · exact absurd h2 c1
    rcases h2 with h1 | ⟨a, ⟨i, h3, h4, h5⟩, j, h6, h7, h8⟩
    · exact .inl h1
    · exact .inr ⟨a, ⟨i, h3, hq _ h4, h5⟩, j, h6, hq _ h7, h8⟩
  by_cases c2 : k.s = false
  · rw [if_pos c2]; exact wo
  rw [if_neg c2]
  rcases wk with ⟨h, _⟩ | ⟨_, ⟨i, a1, a2, a3⟩, j, a4, a5, a6⟩
  · exact absurd h c2
  rcases wo with ⟨h, _⟩ | ⟨_, ⟨i', b1, b2, b3⟩, j', b4, b5, b6⟩
  · exact absurd h c1
  refine .inr ⟨rfl, ?_, ?_⟩
  · rcases Int.le_total k.l o.l with c | c
    · exact ⟨i', b1, b2, by show max k.l o.l = _; rw [Int.max_eq_right c, b3]⟩
    · exact ⟨i, a1, a2, by show max k.l o.l = _; rw [Int.max_eq_left c, a3]⟩
  · rcases Int.le_total k.h o.h with c | c
    · exact ⟨j, a4, a5, by show min k.h o.h = _; rw [Int.min_eq_left c, a6]⟩
    · exact ⟨j', b4, b5, by show min k.h o.h = _; rw [Int.min_eq_right c, b6]⟩
/-- A second later. -/
theorem Says.later {t : Int} {k : Kn} (h : Says S g s (fun x => x.a ≤ t) t k) : (k.later g s).s = false ∨ Says S g s (fun x => x.a ≤ t) (t + 1) (k.later g s) := by
  rcases h with ⟨h, _⟩ | ⟨h0, ⟨i, h1, h2, h3⟩, j, h4, h5, h6⟩
  · exact .inl h
  · refine .inr (.inr ⟨h0, ⟨i, h1, h2, ?_⟩, j, h4, h5, ?_⟩)
    · show k.l - s = _
      rw [h3]
      unfold lowAt
      rw [if_pos (show t ≥ _ from h2), if_pos (show t + 1 ≥ _ by have := h2; omega)]
      have e : s * (t + 1 - (nth S i).a) = s * (t - (nth S i).a) + s * 1 := by rw [← Int.mul_add]; congr 1; omega
      omega
    · show k.h + g = _
      rw [h6]
      unfold highAt
      rw [if_pos (show t ≥ _ from h5), if_pos (show t + 1 ≥ _ by have := h5; omega)]
      have e : g * (t + 1 - (nth S j).a) = g * (t - (nth S j).a) + g * 1 := by rw [← Int.mul_add]; congr 1; omega
      omega
/-- A second earlier. -/
theorem Says.sooner {t : Int} {k : Kn} (h : Says S g s (fun x => t + 1 ≤ x.a) (t + 1) k) : (k.later s g).s = false ∨ Says S g s (fun x => t + 1 ≤ x.a) t (k.later s g) := by
  rcases h with ⟨h, _⟩ | ⟨h0, ⟨i, h1, h2, h3⟩, j, h4, h5, h6⟩
  · exact .inl h
  · refine .inr (.inr ⟨h0, ⟨i, h1, h2, ?_⟩, j, h4, h5, ?_⟩)
    · show k.l - g = _
      rw [h3]
      unfold lowAt
      have e : g * ((nth S i).a - t) = g * ((nth S i).a - (t + 1)) + g * 1 := by rw [← Int.mul_add]; congr 1; omega
      have h2' : t + 1 ≤ (nth S i).a := h2
      rw [if_neg (show ¬ t ≥ _ by omega)]
      by_cases c : t + 1 ≥ (nth S i).a
      · have z : (nth S i).a = t + 1 := by omega
        rw [if_pos c, z]
        have z1 : s * (t + 1 - (t + 1)) = 0 := by rw [Int.sub_self]; exact Int.mul_zero _
        have z2 : g * (t + 1 - t) = g := by rw [show t + 1 - t = 1 by omega]; exact Int.mul_one _
        omega
      · rw [if_neg c]; omega
    · show k.h + s = _
      rw [h6]
      unfold highAt
      have e : s * ((nth S j).a - t) = s * ((nth S j).a - (t + 1)) + s * 1 := by rw [← Int.mul_add]; congr 1; omega
      have h5' : t + 1 ≤ (nth S j).a := h5
      rw [if_neg (show ¬ t ≥ _ by omega)]
      by_cases c : t + 1 ≥ (nth S j).a
      · have z : (nth S j).a = t + 1 := by omega
        rw [if_pos c, z]
        have z1 : g * (t + 1 - (t + 1)) = 0 := by rw [Int.sub_self]; exact Int.mul_zero _
        have z2 : s * (t + 1 - t) = s := by rw [show t + 1 - t = 1 by omega]; exact Int.mul_one _
        omega
      · rw [if_neg c]; omega
/-- Bounds of what is known. -/
theorem Says.bd (H : SmOK S g s E) {P : Sm → Prop} {t : Int} (h0 : 0 ≤ t) (h1 : t ≤ E) {k : Kn} (h : Says S g s P t k) : -200000000 ≤ k.l ∧ k.l ≤ 1000000 ∧ 0 ≤ k.h ∧ k.h ≤ 201000000 := by
  have E1 := H.E1
  have g1 := H.g1
  have s1 := H.s1
  have mb : ∀ x y : Int, 0 ≤ x → x ≤ 1000000 → 0 ≤ y → y ≤ 200 → 0 ≤ x * y ∧ x * y ≤ 200000000 := fun x y a b c d => by
    have h1 : 0 ≤ x * y := Int.mul_nonneg a c
    have h2 : x * y ≤ 1000000 * 200 := Int.mul_le_mul b d c (by omega)
    omega
  rcases h with ⟨_, h2, h3⟩ | ⟨_, ⟨i, hi, _, h3⟩, j, hj, _, h6⟩
  · omega
  · have bi := H.bd i hi
    have bj := H.bd j hj
    generalize nth S i = x at *
    generalize nth S j = y at *
    obtain ⟨xa, xl, xh⟩ := x
    obtain ⟨ya, yl, yh⟩ := y
    unfold lowAt at h3
    unfold highAt at h6
    simp only at *
    constructor
    · by_cases c : t ≥ xa
      · rw [if_pos c] at h3
        have := mb s (t - xa) s1.1 s1.2 (by omega) (by omega)
        omega
      · rw [if_neg c] at h3
        have := mb g (xa - t) g1.1 g1.2 (by omega) (by omega)
        omega
    constructor
    · by_cases c : t ≥ xa
      · rw [if_pos c] at h3
        have := mb s (t - xa) s1.1 s1.2 (by omega) (by omega)
        omega
      · rw [if_neg c] at h3
        have := mb g (xa - t) g1.1 g1.2 (by omega) (by omega)
        omega
    · by_cases c : t ≥ ya
      · rw [if_pos c] at h6
        have := mb g (t - ya) g1.1 g1.2 (by omega) (by omega)
        omega
      · rw [if_neg c] at h6
        have := mb s (ya - t) s1.1 s1.2 (by omega) (by omega)
        omega
theorem says_le (H : SmOK S g s E) {P Q : Sm → Prop} {t : Int} {k o : Kn} (h1 : Says S g s P t k) (h2 : Says S g s Q t o) (k1 : k.s = true) (o1 : o.s = true) : k.l ≤ o.h := by
  rcases h1 with ⟨h, _⟩ | ⟨_, ⟨i, hi, _, h3⟩, _⟩
  · rw [h] at k1; cases k1
  rcases h2 with ⟨h, _⟩ | ⟨_, _, j, hj, _, h4⟩
  · rw [h] at o1; cases o1
  rw [h3, h4]
  exact lowhigh H hi hj t
theorem ceil_nn {a b : Int} (h : 0 < b) : 0 ≤ ceilI a b := by
  unfold ceilI
  split
  · exact Int.ediv_nonneg (by omega) (by omega)
  · omega
theorem peak_ge {a up b down : Int} (hu : 0 ≤ up) (hd : 0 ≤ down) : min a (b + down) ≤ peakI a up b down := by
  unfold peakI
  split
  · omega
  · split
    · omega
    · have := @ceil_nn (up * (b + down - a)) (up + down) (by omega)
      omega
/-- What is known from a second to the next one. -/
def btw (g s : Int) (a b : Kn) : Kn := if a.s = false then b.later s g else if b.s = false then a.later g s else ⟨-peakI (-a.l) s (-b.l) g, peakI a.h g b.h s, true⟩
theorem btw_le (H : SmOK S g s E) {t : Int} {a b : Kn} (ha : Says S g s (fun x => x.a ≤ t) t a) (hb : Says S g s (fun x => t + 1 ≤ x.a) (t + 1) b) (hk : (btw g s a b).s = true) : (btw g s a b).l ≤ (btw g s a b).h := by
  have g0 := H.g1.1
  have s0 := H.s1.1
  unfold btw at *
  by_cases c1 : a.s = false
  · rw [if_pos c1] at hk ⊢
    rcases hb.sooner with h | h
    · rw [h] at hk; cases hk
    · exact says_le H h h hk hk
  · rw [if_neg c1] at hk ⊢
    by_cases c2 : b.s = false
    · rw [if_pos c2] at hk ⊢
      rcases ha.later with h | h
      · rw [h] at hk; cases hk
      · exact says_le H h h hk hk
    · rw [if_neg c2]
      have a1 : a.s = true := by simpa using c1
      have b1 : b.s = true := by simpa using c2
      have hb' : Says S g s (fun x => t + 1 ≤ x.a) t (b.later s g) := by
        rcases hb.sooner with h | h
        · exact absurd (show b.s = false from h) c2
        · exact h
      have b2 : (b.later s g).s = true := b1
      have h1 := says_le H ha ha a1 a1
      have h2 := says_le H ha hb' a1 b2
      have h3 := says_le H hb' ha b2 a1
      have h4 := says_le H hb' hb' b2 b2
      have p1 := @peak_ge (-a.l) s (-b.l) g s0 g0
      have p2 := @peak_ge a.h g b.h s g0 s0
      show -peakI (-a.l) s (-b.l) g ≤ peakI a.h g b.h s
      unfold Kn.later at h2 h3 h4
      simp only at h2 h3 h4
      omega
end
end Go.Proofs.Yteddklolpcpjaaa
