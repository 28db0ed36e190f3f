/-
  Plain law of chapter 7, turns: the settings that suit blocks are a square; its first one; lists of numbers in their order.
-/
import Derived.Test.YtlkfcbdbieenhaaMh
set_option linter.unusedSimpArgs false
set_option linter.unusedVariables false
namespace Go.Proofs.Ytlkfcbdbieenhaa
open Go.RowKit Go.Vm

/-- A tilt: the least and the greatest X, the least and the greatest Y. -/
abbrev Tl := Int × Int × Int × Int
def eT (t : Tl) : List Value := [.int .i64 t.1, .int .i64 t.2.1, .int .i64 t.2.2.1, .int .i64 t.2.2.2]
instance flT : FlatE eT 4 := ⟨fun _ => rfl, fun _ => rfl, fun _ => rfl⟩
abbrev eN (n : Int) : List Value := [.int .i64 n]
instance flN : FlatE eN 1 := ⟨fun _ => rfl, fun _ => rfl, fun _ => rfl⟩
abbrev tV (t : Tl) : Value := .agg #[.int .i64 t.1, .int .i64 t.2.1, .int .i64 t.2.2.1, .int .i64 t.2.2.2]
def inT (n a b : Int) : Bool := decide (a ≤ n) && decide (n ≤ b)
def angB (l h : Int) : Bool := decide (-36000 ≤ l) && decide (l ≤ h) && decide (h ≤ 36000)
def tltB (t : Tl) : Bool := angB t.1 t.2.1 && angB t.2.2.1 t.2.2.2
theorem ang_ok {l h : Int} (e : angB l h = true) : -36000 ≤ l ∧ l ≤ h ∧ h ≤ 36000 := by
  unfold angB at e
  simp only [Bool.and_eq_true, decide_eq_true_eq] at e
  exact ⟨e.1.1, e.1.2, e.2⟩
theorem tlt_ok {t : Tl} (e : tltB t = true) : (-36000 ≤ t.1 ∧ t.1 ≤ t.2.1 ∧ t.2.1 ≤ 36000) ∧ (-36000 ≤ t.2.2.1 ∧ t.2.2.1 ≤ t.2.2.2 ∧ t.2.2.2 ≤ 36000) := by
  unfold tltB at e
  rw [Bool.and_eq_true] at e
  exact ⟨ang_ok e.1, ang_ok e.2⟩
theorem inT_ok {n a b : Int} (h : inT n a b = true) : a ≤ n ∧ n ≤ b := by
  unfold inT at h
  simp only [Bool.and_eq_true, decide_eq_true_eq] at h
  exact h
def absF (n : Int) : Int := max n (-n)
def mostF (l h b : Int) : Int := max (absF (l + b)) (absF (h + b))
def leastF (l h b : Int) : Int := if l ≤ -b ∧ -b ≤ h then 0 else min (absF (l + b)) (absF (h + b))
def awLo (l h b : Int) : Int := max (max 0 (l + b)) (-(h + b))
def awHi (l h b : Int) : Int := max (h + b) (-(l + b))
theorem aw_least {l h b : Int} (hl : l ≤ h) : awLo l h b = leastF l h b := by
  unfold awLo leastF absF
  split <;> omega
theorem aw_most {l h b : Int} (hl : l ≤ h) : awHi l h b = mostF l h b := by
  unfold awHi mostF absF
  omega
def suitsB (t : Tl) (x y tol : Int) : Bool := decide (mostF t.1 t.2.1 x + mostF t.2.2.1 t.2.2.2 y ≤ tol)

/-- A square: the least and the greatest sum, the least and the greatest difference. -/
abbrev Sq := Int × Int × Int × Int
def ofF (t : Tl) (tol : Int) : Sq := (-tol - t.1 - t.2.2.1, tol - t.2.1 - t.2.2.2, -tol - t.1 + t.2.2.2, tol - t.2.1 + t.2.2.1)
def meetF (a b : Sq) : Sq := (max a.1 b.1, min a.2.1 b.2.1, max a.2.2.1 b.2.2.1, min a.2.2.2 b.2.2.2)
def inSq (a : Sq) (x y : Int) : Prop := (a.1 ≤ x + y ∧ x + y ≤ a.2.1) ∧ a.2.2.1 ≤ x - y ∧ x - y ≤ a.2.2.2
theorem suits_sq {t : Tl} (ht : tltB t = true) (x y tol : Int) : suitsB t x y tol = true ↔ inSq (ofF t tol) x y := by
  have := tlt_ok ht
  unfold suitsB inSq ofF mostF absF
  rw [decide_eq_true_eq]
  simp only
  omega
theorem in_meet {a b : Sq} {x y : Int} : inSq (meetF a b) x y ↔ inSq a x y ∧ inSq b x y := by
  unfold inSq meetF
  simp only
  omega
/-- The first setting of a square. -/
def firstF (a : Sq) : Int × Int × Bool :=
  if a.2.1 < a.1 ∨ a.2.2.2 < a.2.2.1 then (0, 0, false)
  else if (a.1 + a.2.2.1) % 2 = 0 then ((a.1 + a.2.2.1) / 2, (a.1 - a.2.2.1) / 2, true)
  else if a.2.2.1 < a.2.2.2 then ((a.1 + (a.2.2.1 + 1)) / 2, (a.1 - (a.2.2.1 + 1)) / 2, true)
  else if a.1 < a.2.1 then ((a.1 + 1 + a.2.2.1) / 2, (a.1 + 1 - a.2.2.1) / 2, true)
  else (0, 0, false)
theorem first_none {a : Sq} (h : (firstF a).2.2 = false) : (∀ x y, ¬ inSq a x y) ∧ (firstF a).1 = 0 ∧ (firstF a).2.1 = 0 := by
  unfold firstF at h ⊢
  unfold inSq
  split at h
  · rename_i h1
    rw [if_pos h1]
    exact ⟨fun x y => by omega, rfl, rfl⟩
  · rename_i h1
    rw [if_neg h1]
    split at h
    · cases h
    · rename_i h2
      rw [if_neg h2]
      split at h
      · cases h
      · rename_i h3
        rw [if_neg h3]
        split at h
        · cases h
        · rename_i h4
          rw [if_neg h4]
          exact ⟨fun x y => by omega, rfl, rfl⟩
theorem first_some {a : Sq} (h : (firstF a).2.2 = true) : inSq a (firstF a).1 (firstF a).2.1 ∧ ∀ x y, inSq a x y → (firstF a).1 < x ∨ (firstF a).1 = x ∧ (firstF a).2.1 ≤ y := by
  unfold firstF at h ⊢
  unfold inSq
  split at h
  · cases h
  · rename_i h1
    rw [if_neg h1]
    split at h
    · rename_i h2
      rw [if_pos h2]
      simp only
      exact ⟨by omega, fun x y => by omega⟩
    · rename_i h2
      rw [if_neg h2]
      split at h
      · rename_i h3
        rw [if_pos h3]
        simp only
        exact ⟨by omega, fun x y => by omega⟩
      · rename_i h3
        rw [if_neg h3]
        split at h
        · rename_i h4
          rw [if_pos h4]
          simp only
          exact ⟨by omega, fun x y => by omega⟩
        · cases h
theorem first_uniq {a : Sq} {x y : Int} (h : inSq a x y) (hm : ∀ x' y', inSq a x' y' → x < x' ∨ x = x' ∧ y ≤ y') : firstF a = (x, y, true) := by
  cases hf : (firstF a).2.2 with
  | false => exact absurd h ((first_none hf).1 x y)
  | true =>
    obtain ⟨h1, h2⟩ := first_some hf
    have h3 := h2 x y h
    have h4 := hm _ _ h1
    refine Prod.ext (by simp only; omega) (Prod.ext (by simp only; omega) hf)
theorem first_no {a : Sq} (h : ∀ x y, ¬ inSq a x y) : firstF a = (0, 0, false) := by
  cases hf : (firstF a).2.2 with
  | true => exact absurd (first_some hf).1 (h _ _)
  | false => exact Prod.ext (first_none hf).2.1 (Prod.ext (first_none hf).2.2 hf)

/-- The square of some blocks, by their numbers. -/
def sqL (l : List Tl) (tol : Int) : List Int → Sq
  | [] => (0, 0, 0, 0)
  | j :: js => js.foldl (fun a i => meetF a (ofF (nth l i.toNat) tol)) (ofF (nth l j.toNat) tol)
theorem in_fold {l : List Tl} {tol x y : Int} : ∀ {js : List Int} {a : Sq}, inSq (js.foldl (fun a i => meetF a (ofF (nth l i.toNat) tol)) a) x y ↔ inSq a x y ∧ ∀ j ∈ js, inSq (ofF (nth l j.toNat) tol) x y
  | [], a => by simp
  | j :: js, a => by
    rw [List.foldl_cons, in_fold, in_meet]
    simp only [List.mem_cons, forall_eq_or_imp]
    exact ⟨fun ⟨⟨h1, h2⟩, h3⟩ => ⟨h1, h2, h3⟩, fun ⟨h1, h2, h3⟩ => ⟨⟨h1, h2⟩, h3⟩⟩
theorem in_sqL {l : List Tl} {tol x y : Int} {js : List Int} (hj : js ≠ []) : inSq (sqL l tol js) x y ↔ ∀ j ∈ js, inSq (ofF (nth l j.toNat) tol) x y := by
  cases js with
  | nil => exact absurd rfl hj
  | cons j js =>
    unfold sqL
    rw [in_fold]
    simp only [List.mem_cons, forall_eq_or_imp]
/-- No setting suits these blocks. -/
def apart (l : List Tl) (tol : Int) (js : List Int) : Bool := !(firstF (sqL l tol js)).2.2
theorem apart_mono {l : List Tl} {tol : Int} {js ks : List Int} (hj : js ≠ []) (hs : ∀ j ∈ js, j ∈ ks) (h : apart l tol ks = false) : apart l tol js = false := by
  have hk : ks ≠ [] := by
    cases js with
    | nil => exact absurd rfl hj
    | cons j js => exact List.ne_nil_of_mem (hs j (by simp))
  unfold apart at h ⊢
  rw [Bool.not_eq_false'] at h ⊢
  have h1 := (in_sqL hk).1 (first_some h).1
  cases hf : (firstF (sqL l tol js)).2.2 with
  | true => rfl
  | false => exact absurd ((in_sqL hj).2 fun j h => h1 j (hs j h)) ((first_none hf).1 _ _)

/-- All ascending lists of so many numbers from one to below another one, in their order. -/
def lsM (n : Int) : Nat → Int → List (List Int)
  | 0, _ => [[]]
  | m + 1, f => (List.range (n - f).toNat).flatMap fun (i : Nat) => (lsM n m (f + i + 1)).map ((f + (i : Int)) :: ·)
/-- The first so many rounds of them. -/
def lsP (n : Int) (m : Nat) (f : Int) (j : Nat) : List (List Int) := (List.range j).flatMap fun (i : Nat) => (lsM n m (f + i + 1)).map ((f + (i : Int)) :: ·)
theorem lsP_zero (n : Int) (m : Nat) (f : Int) : lsP n m f 0 = [] := rfl
theorem lsP_succ (n : Int) (m : Nat) (f : Int) (j : Nat) : lsP n m f (j + 1) = lsP n m f j ++ (lsM n m (f + j + 1)).map ((f + (j : Int)) :: ·) := by
  unfold lsP
  rw [List.range_succ, List.flatMap_append]
  simp
theorem lsM_succ (n : Int) (m : Nat) (f : Int) : lsM n (m + 1) f = lsP n m f (n - f).toNat := rfl
theorem lsM_mem {n : Int} : ∀ (m : Nat) (f : Int), ∀ js ∈ lsM n m f, js.length = m ∧ ∀ j ∈ js, f ≤ j ∧ j < n
  | 0, f, js, h => by
    simp only [lsM, List.mem_singleton] at h
    subst h
    simp
  | m + 1, f, js, h => by
    simp only [lsM, List.mem_flatMap, List.mem_range, List.mem_map] at h
    obtain ⟨i, hi, r, hr, rfl⟩ := h
    obtain ⟨h1, h2⟩ := lsM_mem m _ r hr
    refine ⟨by simp [h1], fun j hj => ?_⟩
    rcases List.mem_cons.1 hj with rfl | hj
    · omega
    · have := h2 j hj
      omega
theorem lsM_len {n : Int} {B : Nat} : ∀ (m : Nat) (f : Int), (n - f).toNat ≤ B → (lsM n m f).length ≤ B ^ m
  | 0, f, h => by simp [lsM]
  | m + 1, f, h => by
    have hP : ∀ j, j ≤ (n - f).toNat → (lsP n m f j).length ≤ j * B ^ m := by
      intro j
      induction j with
      | zero => intro _; simp [lsP_zero]
      | succ j ih =>
        intro hj
        rw [lsP_succ, List.length_append, List.length_map, Nat.succ_mul]
        exact Nat.add_le_add (ih (by omega)) (lsM_len m _ (by omega))
    rw [lsM_succ, Nat.pow_succ, Nat.mul_comm (B ^ m)]
    exact Nat.le_trans (hP _ (Nat.le_refl _)) (Nat.mul_le_mul_right _ h)
/-- The numbers from one on. -/
def upN (f : Int) : Nat → List Int
  | 0 => []
  | m + 1 => f :: upN (f + 1) m
theorem upN_mem {x : Int} : ∀ {m : Nat} {f : Int}, x ∈ upN f m ↔ f ≤ x ∧ x < f + m
  | 0, f => by
    simp only [upN, List.not_mem_nil, false_iff]
    omega
  | m + 1, f => by
    simp only [upN, List.mem_cons, upN_mem]
    omega
theorem upN_len : ∀ (m : Nat) (f : Int), (upN f m).length = m
  | 0, _ => rfl
  | m + 1, f => by simp [upN, upN_len m]
theorem upN_snoc : ∀ (m : Nat) (f : Int), upN f (m + 1) = upN f m ++ [f + m]
  | 0, f => by simp [upN]
  | m + 1, f => by
    rw [upN, upN_snoc m, upN, List.cons_append, show f + 1 + (m : Int) = f + ((m + 1 : Nat) : Int) by omega]
theorem lsM_all : ∀ (m : Nat) (f : Int), upN f m ∈ lsM (f + m) m f
  | 0, f => by simp [upN, lsM]
  | m + 1, f => by
    simp only [lsM, List.mem_flatMap, List.mem_range, List.mem_map]
    refine ⟨0, by omega, upN (f + 1) m, ?_, by simp [upN]⟩
    have := lsM_all m (f + 1)
    rw [show f + 1 + (m : Int) = f + ((m + 1 : Nat) : Int) by omega] at this
    simpa using this
/-- The fewest blocks that no setting suits. -/
def conF (p : List Int → Bool) (n : Int) : Nat → Nat → Option (List Int)
  | 0, _ => none
  | d + 1, m => match (lsM n m 0).find? p with
    | some c => some c
    | none => conF p n d (m + 1)
theorem conF_none {p : List Int → Bool} {n : Int} (h : ∀ m js, 1 ≤ m → js ∈ lsM n m 0 → p js = false) : ∀ d m, 1 ≤ m → conF p n d m = none
  | 0, m, _ => rfl
  | d + 1, m, hm => by
    have : (lsM n m 0).find? p = none := List.find?_eq_none.2 fun js hj => by simp [h m js hm hj]
    simp only [conF, this]
    exact conF_none h d (m + 1) (by omega)
theorem conF_some {p : List Int → Bool} {n : Int} : ∀ d m k js, m ≤ k → k < m + d → js ∈ lsM n k 0 → p js = true → ∃ c, conF p n d m = some c
  | 0, m, k, js, h1, h2, _, _ => by omega
  | d + 1, m, k, js, h1, h2, hj, hp => by
    unfold conF
    cases e : (lsM n m 0).find? p with
    | some c => exact ⟨c, rfl⟩
    | none =>
      by_cases hk : m = k
      · subst hk
        have := List.find?_eq_none.1 e js hj
        exact absurd hp this
      · exact conF_some d (m + 1) k js (by omega) (by omega) hj hp
/-- No conflict where there is a setting; one where there is none. -/
theorem con_ok {l : List Tl} {tol : Int} {n : Nat} (h : apart l tol (upN 0 n) = false) : conF (apart l tol) n n 1 = none :=
  conF_none (fun m js hm hj => by
    obtain ⟨h1, h2⟩ := lsM_mem m 0 js hj
    refine apart_mono (fun e => by subst e; simp at h1; omega) (fun j hj => upN_mem.2 ?_) h
    have := h2 j hj
    omega) n 1 (Nat.le_refl 1)
theorem con_bad {l : List Tl} {tol : Int} {n : Nat} (hn : 1 ≤ n) (h : apart l tol (upN 0 n) = true) : ∃ c, conF (apart l tol) n n 1 = some c := by
  have := lsM_all n 0
  rw [Int.zero_add] at this
  exact conF_some n 1 n _ hn (by omega) this h
end Go.Proofs.Ytlkfcbdbieenhaa
