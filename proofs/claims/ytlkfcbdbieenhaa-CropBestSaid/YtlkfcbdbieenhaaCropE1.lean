/-
  Plain law of chapter 7: of the croppings with the greatest total and the fewest blocks the smallest list is the one that the table tells.
-/
import Derived.Test.YtlkfcbdbieenhaaCropP2
set_option linter.unusedSimpArgs false
set_option linter.unusedVariables false
namespace Go.Proofs.Ytlkfcbdbieenhaa
open Go.RowKit Go.Vm

/-- Less of two lists of blocks. -/
def lexL : List Bl → List Bl → Bool
  | x :: a, y :: b => if x.1 ≠ y.1 then decide (x.1 < y.1) else if x.2 ≠ y.2 then decide (x.2 < y.2) else lexL a b
  | _, _ => false
theorem lexL_irrefl : ∀ a : List Bl, lexL a a = false
  | [] => rfl
  | x :: a => by simp [lexL, lexL_irrefl a]
theorem lexL_tot : ∀ {a b : List Bl}, a.length = b.length → lexL a b = false → lexL b a = false → a = b
  | [], [], _, _, _ => rfl
  | x :: a, y :: b, h, h1, h2 => by
    unfold lexL at h1 h2
    by_cases e1 : x.1 = y.1
    · by_cases e2 : x.2 = y.2
      · simp only [e1, e2, ne_eq, not_true_eq_false, if_false] at h1 h2
        rw [lexL_tot (by simpa using h) h1 h2, Prod.ext e1 e2]
      · simp only [e1, e2, Ne.symm e2, fun h => e2 (Eq.symm h), ne_eq, not_true_eq_false, not_false_eq_true, if_false, if_true, decide_eq_false_iff_not] at h1 h2
        omega
    · have e1' : ¬ y.1 = x.1 := fun h => e1 h.symm
      simp only [e1, e1', ne_eq, not_false_eq_true, if_true, decide_eq_false_iff_not] at h1 h2
      omega
  | [], _ :: _, h, _, _ => by simp at h
  | _ :: _, [], h, _, _ => by simp at h
theorem lexL_trans : ∀ {a b c : List Bl}, lexL a b = true → lexL b c = true → lexL a c = true
  | x :: a, y :: b, z :: c, h1, h2 => by
    unfold lexL at h1 h2 ⊢
    split at h1
    · rename_i e1
      rw [decide_eq_true_eq] at h1
      split at h2
      · rw [decide_eq_true_eq] at h2
        rw [if_pos (by omega), decide_eq_true_eq]; omega
      · rw [if_pos (by omega), decide_eq_true_eq]; omega
    · rename_i e1
      split at h2
      · rw [decide_eq_true_eq] at h2
        rw [if_pos (by omega), decide_eq_true_eq]; omega
      · rename_i e2
        rw [if_neg (by omega)]
        split at h1
        · rw [decide_eq_true_eq] at h1
          split at h2
          · rw [decide_eq_true_eq] at h2
            rw [if_pos (by omega), decide_eq_true_eq]; omega
          · rw [if_pos (by omega), decide_eq_true_eq]; omega
        · split at h2
          · rw [decide_eq_true_eq] at h2
            rw [if_pos (by omega), decide_eq_true_eq]; omega
          · rw [if_neg (by omega)]
            exact lexL_trans h1 h2
  | [], _, _, h, _ => by simp [lexL] at h
  | _ :: _, [], _, h, _ => by simp [lexL] at h
  | _ :: _, _ :: _, [], _, h => by simp [lexL] at h

/-- A cropping that is strictly better. -/
def sbB (ws : List Int) (a b : List Bl) : Prop := smB ws b < smB ws a ∨ (smB ws a = smB ws b ∧ (a.length < b.length ∨ (a.length = b.length ∧ lexL a b = true)))
theorem sbB_trans {ws : List Int} {a b c : List Bl} (h1 : sbB ws a b) (h2 : sbB ws b c) : sbB ws a c := by
  unfold sbB at *
  rcases h1 with h1 | ⟨h1, h3 | ⟨h3, h5⟩⟩ <;> rcases h2 with h2 | ⟨h2, h4 | ⟨h4, h6⟩⟩ <;> first
    | exact .inl (by omega)
    | exact .inr ⟨by omega, .inl (by omega)⟩
    | exact .inr ⟨by omega, .inr ⟨by omega, lexL_trans h5 h6⟩⟩
theorem sbB_uniq {ws : List Int} {a b : List Bl} (h1 : ¬ sbB ws a b) (h2 : ¬ sbB ws b a) : a = b := by
  unfold sbB at *
  have e1 : smB ws a = smB ws b := by
    rcases Int.lt_trichotomy (smB ws a) (smB ws b) with h | h | h
    · exact absurd (.inl h) h2
    · exact h
    · exact absurd (.inl h) h1
  have e2 : a.length = b.length := by
    rcases Nat.lt_trichotomy a.length b.length with h | h | h
    · exact absurd (.inr ⟨e1, .inl h⟩) h1
    · exact h
    · exact absurd (.inr ⟨e1.symm, .inl h⟩) h2
  refine lexL_tot e2 ?_ ?_
  · cases h : lexL a b with
    | false => rfl
    | true => exact absurd (.inr ⟨e1, .inr ⟨e2, h⟩⟩) h1
  · cases h : lexL b a with
    | false => rfl
    | true => exact absurd (.inr ⟨e1.symm, .inr ⟨e2.symm, h⟩⟩) h2

section
variable {ws : List Int} {s1 s2 s3 : Int}
/-- The blocks that the table tells from a place on. -/
def bwP (ws : List Int) (s1 s2 s3 : Int) (p : Nat) : List Bl := bwF (tabW ws s1 s2 s3) s3 ws.length (ws.length + 1) p

theorem rc_lt {a b : Rs} : rcF a b < 0 ↔ a.1 < b.1 ∨ (a.1 = b.1 ∧ b.2.1 < a.2.1) := by
  unfold rcF cmpF
  repeat' split
  all_goals omega
theorem rc_ge {a b : Rs} : 0 ≤ rcF a b ↔ b.1 < a.1 ∨ (a.1 = b.1 ∧ a.2.1 ≤ b.2.1) := by
  unfold rcF cmpF
  repeat' split
  all_goals omega
theorem rc_gt {a b : Rs} : 0 < rcF a b ↔ b.1 < a.1 ∨ (a.1 = b.1 ∧ a.2.1 < b.2.1) := by
  unfold rcF cmpF
  repeat' split
  all_goals omega
theorem step_t {m : Nat → Rs} {n : Nat} {b : Rs} {o : Bool} {y : Yd} (h : 0 < rcF (candF m s3 n y) b ∨ rcF (candF m s3 n y) b = 0 ∧ o = false) : stepR m s3 n (b, o) y = (candF m s3 n y, true) := if_pos h
theorem step_f {m : Nat → Rs} {n : Nat} {b : Rs} {o : Bool} {y : Yd} (h : ¬ (0 < rcF (candF m s3 n y) b ∨ rcF (candF m s3 n y) b = 0 ∧ o = false)) : stepR m s3 n (b, o) y = (b, o) := if_neg h
theorem fold_some (m : Nat → Rs) (n : Nat) : ∀ (l : List Yd) (b : Rs), ((l.foldl (stepR m s3 n) (b, true)) = (b, true) ∧ ∀ y ∈ l, ¬ 0 < rcF (candF m s3 n y) b) ∨
    ∃ pre x post, l = pre ++ x :: post ∧ l.foldl (stepR m s3 n) (b, true) = (candF m s3 n x, true) ∧ 0 < rcF (candF m s3 n x) b ∧ (∀ y ∈ pre, rcF (candF m s3 n y) (candF m s3 n x) < 0) ∧ ∀ y ∈ post, ¬ 0 < rcF (candF m s3 n y) (candF m s3 n x)
  | [], b => .inl ⟨rfl, fun y hy => by cases hy⟩
  | y :: l, b => by
    rw [List.foldl_cons]
    by_cases h : 0 < rcF (candF m s3 n y) b
    · rw [step_t (.inl h)]
      rcases fold_some m n l (candF m s3 n y) with ⟨e, h2⟩ | ⟨pre, x, post, e1, e2, h3, h4, h5⟩
      · exact .inr ⟨[], y, l, rfl, e, h, (fun z hz => by cases hz), h2⟩
      · refine .inr ⟨y :: pre, x, post, by rw [e1]; rfl, e2, ?_, fun z hz => ?_, h5⟩
        · rw [rc_gt] at *; omega
        · rcases List.mem_cons.1 hz with rfl | hz
          · rw [rc_gt] at h3; rw [rc_lt]; omega
          · exact h4 z hz
    · rw [step_f (by rintro (h2 | ⟨_, h2⟩); exact h h2; cases h2)]
      rcases fold_some m n l b with ⟨e, h2⟩ | ⟨pre, x, post, e1, e2, h3, h4, h5⟩
      · refine .inl ⟨e, fun z hz => ?_⟩
        rcases List.mem_cons.1 hz with rfl | hz
        · exact h
        · exact h2 z hz
      · refine .inr ⟨y :: pre, x, post, by rw [e1]; rfl, e2, h3, fun z hz => ?_, h5⟩
        rcases List.mem_cons.1 hz with rfl | hz
        · rw [rc_gt] at h h3; rw [rc_lt]; omega
        · exact h4 z hz
/-- What an entry of the table is: the one behind it, or the first of the best blocks from here on. -/
theorem fold_first (m : Nat → Rs) (n : Nat) (b0 : Rs) : ∀ (l : List Yd), ((l.foldl (stepR m s3 n) (b0, false)) = (b0, false) ∧ ∀ y ∈ l, rcF (candF m s3 n y) b0 < 0) ∨
    ∃ pre x post, l = pre ++ x :: post ∧ l.foldl (stepR m s3 n) (b0, false) = (candF m s3 n x, true) ∧ 0 ≤ rcF (candF m s3 n x) b0 ∧ (∀ y ∈ pre, rcF (candF m s3 n y) (candF m s3 n x) < 0) ∧ ∀ y ∈ post, ¬ 0 < rcF (candF m s3 n y) (candF m s3 n x)
  | [] => .inl ⟨rfl, fun y hy => by cases hy⟩
  | y :: l => by
    rw [List.foldl_cons]
    by_cases h : 0 ≤ rcF (candF m s3 n y) b0
    · rw [step_t (by rcases Int.lt_or_eq_of_le h with h | h; exact .inl h; exact .inr ⟨h.symm, rfl⟩)]
      rcases fold_some m n l (candF m s3 n y) with ⟨e, h2⟩ | ⟨pre, x, post, e1, e2, h3, h4, h5⟩
      · exact .inr ⟨[], y, l, rfl, e, h, (fun z hz => by cases hz), h2⟩
      · refine .inr ⟨y :: pre, x, post, by rw [e1]; rfl, e2, ?_, fun z hz => ?_, h5⟩
        · rw [rc_gt] at h3; rw [rc_ge] at *; omega
        · rcases List.mem_cons.1 hz with rfl | hz
          · rw [rc_gt] at h3; rw [rc_lt]; omega
          · exact h4 z hz
    · rw [step_f (by omega)]
      rcases fold_first m n b0 l with ⟨e, h2⟩ | ⟨pre, x, post, e1, e2, h3, h4, h5⟩
      · refine .inl ⟨e, fun z hz => ?_⟩
        rcases List.mem_cons.1 hz with rfl | hz
        · omega
        · exact h2 z hz
      · refine .inr ⟨y :: pre, x, post, by rw [e1]; rfl, e2, h3, fun z hz => ?_, h5⟩
        rcases List.mem_cons.1 hz with rfl | hz
        · rw [rc_ge] at h h3; rw [rc_lt]; omega
        · exact h4 z hz

theorem bwF_stable (hw : ∀ x ∈ ws, -1 ≤ x ∧ x ≤ 1000) (hs3 : 0 ≤ s3) : ∀ (k p : Nat), p ≤ ws.length → ws.length < p + k → bwF (tabW ws s1 s2 s3) s3 ws.length (k + 1) p = bwF (tabW ws s1 s2 s3) s3 ws.length k p
  | 0, p, h1, h2 => by omega
  | k + 1, p, h1, h2 => by
    by_cases h : 0 < (tabW ws s1 s2 s3 p).2.1
    · have hok := (tab_ok (s1 := s1) (s2 := s2) hw hs3 p h1).2.2.2.2 h
      rw [bwF_step h, bwF_step h, bwF_stable hw hs3 k _ (by omega) (by omega)]
    · rw [bwF_end h, bwF_end h]
theorem bwP_step (hw : ∀ x ∈ ws, -1 ≤ x ∧ x ≤ 1000) (hs3 : 0 ≤ s3) {p : Nat} (hp : p ≤ ws.length) (h : 0 < (tabW ws s1 s2 s3 p).2.1) :
    bwP ws s1 s2 s3 p = ((tabW ws s1 s2 s3 p).2.2.1, (tabW ws s1 s2 s3 p).2.2.2) :: bwP ws s1 s2 s3 (min ((tabW ws s1 s2 s3 p).2.2.2 + s3) ws.length).toNat := by
  have hok := (tab_ok (s1 := s1) (s2 := s2) hw hs3 p hp).2.2.2.2 h
  unfold bwP
  rw [bwF_step h, bwF_stable hw hs3 ws.length _ (by omega) (by omega)]
theorem bwP_end {p : Nat} (h : ¬ 0 < (tabW ws s1 s2 s3 p).2.1) : bwP ws s1 s2 s3 p = [] := bwF_end h _
/-- The table tells how many blocks there are. -/
theorem bwP_len (hw : ∀ x ∈ ws, -1 ≤ x ∧ x ≤ 1000) (hs1 : 1 ≤ s1) (hs3 : 0 ≤ s3) : ∀ (d p : Nat), p + d = ws.length → ((bwP ws s1 s2 s3 p).length : Int) = (tabW ws s1 s2 s3 p).2.1 := by
  intro d
  induction d using Nat.strongRecOn with
  | ind d ih =>
  intro p hp
  by_cases h : 0 < (tabW ws s1 s2 s3 p).2.1
  · have hok := (tab_ok (s1 := s1) (s2 := s2) hw hs3 p (by omega)).2.2.2.2 h
    rw [bwP_step hw hs3 (by omega) h, List.length_cons]
    have := ih (ws.length - (min ((tabW ws s1 s2 s3 p).2.2.2 + s3) ws.length).toNat) (by omega) (min ((tabW ws s1 s2 s3 p).2.2.2 + s3) ws.length).toNat (by omega)
    rw [Int.natCast_add, this]
    rcases tab_good (s2 := s2) hw hs1 hs3 d p hp with h2 | ⟨x, h3, h4, h5⟩
    · rw [h2] at h; simp at h
    · have e2 : (tabW ws s1 s2 s3 p).2.2.2 = x.2 := by rw [h5]; rfl
      rw [e2]
      conv => rhs; rw [h5]
      show _ = 1 + _
      simp only [Int.natCast_one]
      omega
  · rw [bwP_end h]
    have := (tab_ok (s1 := s1) (s2 := s2) hw hs3 p (by omega)).2.2.1
    simp only [List.length_nil]
    omega
theorem bwP_crop (hw : ∀ x ∈ ws, -1 ≤ x ∧ x ≤ 1000) (hs1 : 1 ≤ s1) (hs3 : 0 ≤ s3) {p : Nat} (hp : p ≤ ws.length) : crpF ws s1 s2 s3 p (bwP ws s1 s2 s3 p) ∧ smB ws (bwP ws s1 s2 s3 p) = (tabW ws s1 s2 s3 p).1 :=
  bw_crop hw hs1 hs3 (ws.length + 1) p hp (by omega)

theorem comeF_sorted (ws : List Int) (s1 : Int) (f : Nat) : ∀ j, (comeF ws s1 f j).Pairwise fun x y => x.2.1 < y.2.1
  | 0 => List.Pairwise.nil
  | j + 1 => by
    unfold comeF
    rw [List.pairwise_append]
    refine ⟨comeF_sorted ws s1 f j, ?_, fun a ha b hb => ?_⟩
    · split
      · exact List.pairwise_singleton _ _
      · exact List.Pairwise.nil
    · obtain ⟨i, hi, _, rfl⟩ := comeF_mem.1 ha
      split at hb
      · rw [List.mem_singleton] at hb
        subst hb
        simp only
        omega
      · cases hb
theorem yF_sorted (p : Nat) : (yF ws s1 s2 p).Pairwise fun x y => x.2.1 < y.2.1 := comeF_sorted _ _ _ _

/-- No cropping is better than the one that the table tells. -/
theorem best_min (hw : ∀ x ∈ ws, -1 ≤ x ∧ x ≤ 1000) (hs1 : 1 ≤ s1) (hs3 : 0 ≤ s3) : ∀ (d p : Nat), p + d = ws.length → ∀ cs, crpF ws s1 s2 s3 p cs → ¬ sbB ws cs (bwP ws s1 s2 s3 p) := by
  intro d
  induction d using Nat.strongRecOn with
  | ind d ih =>
  intro p hp cs hcs
  have hL := bwP_len (s2 := s2) hw hs1 hs3 d p hp
  have hC := (bwP_crop (s2 := s2) hw hs1 hs3 (show p ≤ ws.length by omega)).2
  by_cases hl : p < ws.length
  rotate_left
  · obtain rfl : p = ws.length := by omega
    have hn : cs = [] := by
      cases cs with
      | nil => rfl
      | cons x cs =>
        obtain ⟨q1, ⟨q2, q3, q4, _⟩, _⟩ := hcs
        omega
    subst hn
    rw [tab_end] at hC hL
    unfold sbB
    rw [hC]
    simp only [smB, List.map_nil, List.sum_nil, List.length_nil]
    rintro (h | ⟨_, h | ⟨_, h⟩⟩)
    · omega
    · simp at hL; rw [hL] at h; simp at h
    · cases hb : bwP ws s1 s2 s3 ws.length <;> rw [hb] at h <;> simp [lexL] at h
  -- what a cropping that begins here is worth
  have hkey : ∀ x cs', cs = x :: cs' → x.1 = p → ∃ y ∈ yF ws s1 s2 p, y = ((p : Int), x.2, vlB ws x) ∧ okB ws s1 s2 x ∧ crpF ws s1 s2 s3 (min (x.2 + s3) ws.length).toNat cs' ∧ (p : Int) < x.2 ∧ x.2 ≤ ws.length ∧
      smB ws cs = vlB ws x + smB ws cs' ∧ smB ws cs' ≤ (tabW ws s1 s2 s3 (min (x.2 + s3) ws.length).toNat).1 ∧ (smB ws cs' = (tabW ws s1 s2 s3 (min (x.2 + s3) ws.length).toNat).1 → (tabW ws s1 s2 s3 (min (x.2 + s3) ws.length).toNat).2.1 ≤ cs'.length ∧ ((cs'.length : Int) = (tabW ws s1 s2 s3 (min (x.2 + s3) ws.length).toNat).2.1 → ¬ lexL cs' (bwP ws s1 s2 s3 (min (x.2 + s3) ws.length).toNat) = true)) := by
    rintro x cs' rfl hx
    obtain ⟨h1, h2, h3⟩ := hcs
    obtain ⟨g1, g2, g3, g4⟩ := h2
    have hxe : x = ((p : Int), x.2) := by rw [← hx]
    have hq : crpF ws s1 s2 s3 (min (x.2 + s3) ws.length).toNat cs' := by
      by_cases hq : x.2 + s3 ≤ ws.length
      · rw [show ((min (x.2 + s3) (ws.length : Int)).toNat : Int) = x.2 + s3 by omega]
        exact h3
      · have hb : cs' = [] := by
          cases cs' with
          | nil => rfl
          | cons y bs =>
            obtain ⟨k1, ⟨_, k3, k4, _⟩, _⟩ := h3
            omega
        subst hb
        trivial
    have hI := ih (ws.length - (min (x.2 + s3) ws.length).toNat) (by omega) (min (x.2 + s3) ws.length).toNat (by omega) cs' hq
    have hL2 := bwP_len (s2 := s2) hw hs1 hs3 (ws.length - (min (x.2 + s3) ws.length).toNat) (min (x.2 + s3) ws.length).toNat (by omega)
    have hC2 := (bwP_crop (s2 := s2) hw hs1 hs3 (show (min (x.2 + s3) ws.length).toNat ≤ ws.length by omega)).2
    unfold sbB at hI
    rw [hC2] at hI
    refine ⟨((p : Int), x.2, vlB ws x), (yF_mem hs1 (by omega)).2 ⟨rfl, by rw [← hx]; exact ⟨g1, g2, g3, g4⟩, by rw [← hx]⟩, rfl, ⟨g1, g2, g3, g4⟩, hq, by omega, g3, rfl, ?_, fun he => ⟨?_, fun hle hlex => ?_⟩⟩
    · exact Int.not_lt.1 fun h => hI (.inl h)
    · rw [← hL2]
      exact Int.not_lt.1 fun h => hI (.inr ⟨he, .inl (by omega)⟩)
    · exact hI (.inr ⟨he, .inr ⟨by omega, hlex⟩⟩)
  have hp1 := bwP_len (s2 := s2) hw hs1 hs3 (d - 1) (p + 1) (by omega)
  have hc1 := (bwP_crop (s2 := s2) hw hs1 hs3 (show p + 1 ≤ ws.length by omega)).2
  have htab := tab_eq (s1 := s1) (s2 := s2) hw hs3 hl
  have hlater : ∀ cs, crpF ws s1 s2 s3 p cs → (∀ x cs', cs = x :: cs' → x.1 ≠ p) → crpF ws s1 s2 s3 ((p + 1 : Nat) : Int) cs := fun cs h hne => by
    cases cs with
    | nil => trivial
    | cons x cs' =>
      have := hne x cs' rfl
      obtain ⟨h1, h2, h3⟩ := h
      exact ⟨by omega, h2, h3⟩
  rcases fold_first (s3 := s3) (tabW ws s1 s2 s3) ws.length (tabW ws s1 s2 s3 (p + 1)) (yF ws s1 s2 p) with ⟨e, hall⟩ | ⟨pre, x, post, e1, e2, hx0, hpre, hpost⟩
  · have eT : tabW ws s1 s2 s3 p = tabW ws s1 s2 s3 (p + 1) := htab.trans (congrArg Prod.fst e)
    have eB : bwP ws s1 s2 s3 p = bwP ws s1 s2 s3 (p + 1) := by
      unfold bwP bwF
      rw [eT]
    rw [eB]
    by_cases hst : ∃ x cs', cs = x :: cs' ∧ x.1 = p
    · obtain ⟨x, cs', hcs2, hx⟩ := hst
      obtain ⟨y, hy, hye, _, _, _, _, k1, k2, k3⟩ := hkey x cs' hcs2 hx
      have hr := rc_lt.1 (hall y hy)
      subst hye
      simp only [candF] at hr
      unfold sbB
      rw [hc1]
      have hlen : (cs.length : Int) = cs'.length + 1 := by rw [hcs2]; simp
      rintro (h | ⟨h1, h | ⟨h2, _⟩⟩)
      · omega
      · by_cases he : smB ws cs' = (tabW ws s1 s2 s3 (min (x.2 + s3) ws.length).toNat).1
        · have := (k3 he).1
          omega
        · omega
      · by_cases he : smB ws cs' = (tabW ws s1 s2 s3 (min (x.2 + s3) ws.length).toNat).1
        · have := (k3 he).1
          omega
        · omega
    · exact ih (d - 1) (by omega) (p + 1) (by omega) cs (hlater cs hcs fun x cs' h1 h2 => hst ⟨x, cs', h1, h2⟩)
  · have eT : tabW ws s1 s2 s3 p = candF (tabW ws s1 s2 s3) s3 ws.length x := htab.trans (congrArg Prod.fst e2)
    have hxm : x ∈ yF ws s1 s2 p := by rw [e1]; simp
    obtain ⟨y1, y2, y3⟩ := (yF_mem hs1 (by omega)).1 hxm
    have y2a := y2.2.1
    have y2b := y2.2.2.1
    simp only at y2a y2b
    have hqok := tab_ok (s1 := s1) (s2 := s2) hw hs3 (min (x.2.1 + s3) ws.length).toNat (by omega)
    have hpos : 0 < (tabW ws s1 s2 s3 p).2.1 := by
      rw [eT]
      have := hqok.2.2.1
      simp only [candF]
      omega
    have eB := bwP_step hw hs3 (show p ≤ ws.length by omega) hpos
    have eT2 : (tabW ws s1 s2 s3 p).2.2.2 = x.2.1 := by rw [eT]; rfl
    have eT1 : (tabW ws s1 s2 s3 p).2.2.1 = p := by rw [eT]; exact y1
    rw [eT1, eT2] at eB
    have eTt : (tabW ws s1 s2 s3 p).1 = x.2.2 + (tabW ws s1 s2 s3 (min (x.2.1 + s3) ws.length).toNat).1 := by rw [eT]; rfl
    have eTm : (tabW ws s1 s2 s3 p).2.1 = 1 + (tabW ws s1 s2 s3 (min (x.2.1 + s3) ws.length).toNat).2.1 := by rw [eT]; rfl
    have hx1 := rc_ge.1 hx0
    simp only [candF] at hx1
    unfold sbB
    rw [hC]
    by_cases hst : ∃ z cs', cs = z :: cs' ∧ z.1 = p
    · obtain ⟨z, cs', hcs2, hz⟩ := hst
      obtain ⟨y, hy, hye, _, _, _, _, k1, k2, k3⟩ := hkey z cs' hcs2 hz
      have hlen : (cs.length : Int) = cs'.length + 1 := by rw [hcs2]; simp
      -- compared with the block of the table
      have hcmp : y ∈ pre ∨ y = x ∨ y ∈ post := by
        rw [e1] at hy
        rcases List.mem_append.1 hy with h | h
        · exact .inl h
        · exact .inr (List.mem_cons.1 h)
      rcases hcmp with hyp | hyx | hyp
      · have hr := rc_lt.1 (hpre y hyp)
        subst hye
        simp only [candF] at hr
        rintro (h | ⟨h1, h | ⟨h2, _⟩⟩)
        · omega
        · by_cases he : smB ws cs' = (tabW ws s1 s2 s3 (min (z.2 + s3) ws.length).toNat).1
          · have := (k3 he).1
            omega
          · omega
        · by_cases he : smB ws cs' = (tabW ws s1 s2 s3 (min (z.2 + s3) ws.length).toNat).1
          · have := (k3 he).1
            omega
          · omega
      · have hz2 : z.2 = x.2.1 := by rw [← hyx, hye]
        have hzv : vlB ws z = x.2.2 := by rw [← hyx, hye]
        rw [hz2] at k2 k3
        rintro (h | ⟨h1, h | ⟨h2, h3⟩⟩)
        · omega
        · have := (k3 (by omega)).1
          omega
        · rw [hcs2, eB] at h3
          unfold lexL at h3
          simp only [hz, hz2, ne_eq, not_true_eq_false, if_false] at h3
          exact (k3 (by omega)).2 (by omega) h3
      · have hr := hpost y hyp
        rw [rc_gt] at hr
        subst hye
        simp only [candF] at hr
        have hlt : x.2.1 < z.2 := by
          have hsort := yF_sorted (ws := ws) (s1 := s1) (s2 := s2) p
          rw [e1, List.pairwise_append] at hsort
          exact (List.pairwise_cons.1 hsort.2.1).1 _ hyp
        rintro (h | ⟨h1, h | ⟨h2, h3⟩⟩)
        · omega
        · by_cases he : smB ws cs' = (tabW ws s1 s2 s3 (min (z.2 + s3) ws.length).toNat).1
          · have := (k3 he).1
            omega
          · omega
        · rw [hcs2, eB] at h3
          unfold lexL at h3
          rw [if_neg (by simp [hz]), if_pos (by simp only; omega), decide_eq_true_eq] at h3
          omega
    · have hc2 := hlater cs hcs fun x cs' h1 h2 => hst ⟨x, cs', h1, h2⟩
      have hI := ih (d - 1) (by omega) (p + 1) (by omega) cs hc2
      unfold sbB at hI
      rw [hc1] at hI
      have k1 : smB ws cs ≤ (tabW ws s1 s2 s3 (p + 1)).1 := Int.not_lt.1 fun h => hI (.inl h)
      have k2 : smB ws cs = (tabW ws s1 s2 s3 (p + 1)).1 → (tabW ws s1 s2 s3 (p + 1)).2.1 ≤ cs.length := fun he => by
        rw [← hp1]
        exact Int.not_lt.1 fun h => hI (.inr ⟨he, .inl (by omega)⟩)
      rintro (h | ⟨h1, h | ⟨h2, h3⟩⟩)
      · omega
      · have := k2 (by omega)
        omega
      · cases cs with
        | nil => rw [eB] at h2; simp at h2
        | cons z cs' =>
          have hz := hc2.1
          rw [eB] at h3
          unfold lexL at h3
          rw [if_pos (by simp only; omega), decide_eq_true_eq] at h3
          simp only at h3
          omega
end
end Go.Proofs.Ytlkfcbdbieenhaa
