/-
  Chapter 7: the list of all croppings and the best of them (plain); lists of blocks compared; the reference's Total; a list of lists of blocks, however long, in memory by names.
-/
import Derived.Test.YtlkfcbdbieenhaaCropE1
import Derived.Test.YtlkfcbdbieenhaaCropQ1
import Derived.Test.YtlkfcbdbieenhaaCropWE
set_option linter.unusedSimpArgs false
set_option linter.unusedVariables false
namespace Go.Proofs.Ytlkfcbdbieenhaa
open Go.RowKit Go.Vm

section
variable (l : List St) (k1 k2 k3 : Int)
def kpC (R : Int → List (List Bl)) (a b : Int) : List (List Bl) := if alF l k1 k2 a b then (R (b + k3)).map ((a, b) :: ·) else []
def kpB (R : Int → List (List Bl)) (a : Int) (j : Nat) : List (List Bl) := (List.range j).flatMap fun (i : Nat) => kpC l k1 k2 k3 R a (a + k1 + i)
def kpA (R : Int → List (List Bl)) (f : Int) (j : Nat) : List (List Bl) := [] :: (List.range j).flatMap fun (i : Nat) => kpB l k1 k2 k3 R (f + i) (k2 - k1 + 1).toNat
/-- The croppings that begin at a place or behind it. -/
def kpN : Nat → Int → List (List Bl)
  | 0, _ => [[]]
  | d + 1, f => kpA l k1 k2 k3 (kpN d) f (lenF l - f).toNat
end
section
variable {l : List St} {k1 k2 k3 : Int} {R : Int → List (List Bl)}
theorem kpB_succ (a : Int) (j : Nat) : kpB l k1 k2 k3 R a (j + 1) = kpB l k1 k2 k3 R a j ++ kpC l k1 k2 k3 R a (a + k1 + j) := by
  unfold kpB
  rw [List.range_succ, List.flatMap_append]
  simp
theorem kpA_succ (f : Int) (j : Nat) : kpA l k1 k2 k3 R f (j + 1) = kpA l k1 k2 k3 R f j ++ kpB l k1 k2 k3 R (f + j) (k2 - k1 + 1).toNat := by
  unfold kpA
  rw [List.range_succ, List.flatMap_append]
  simp
theorem kpA_zero (f : Int) : kpA l k1 k2 k3 R f 0 = [[]] := rfl
theorem kpB_zero (a : Int) : kpB l k1 k2 k3 R a 0 = [] := rfl

/-- They are just the croppings. -/
theorem kpN_mem (hc : checkF l (k1, k2, k3) = 0) : ∀ (d : Nat) (f : Int) (cs : List Bl), 0 ≤ f → lenF l ≤ f + d → (cs ∈ kpN l k1 k2 k3 d f ↔ crpF (wF l) k1 k2 k3 f cs) := by
  have hok := checkF_ok hc
  have hl := wF_len l hok.2.1
  have hal : ∀ {a b : Int}, alF l k1 k2 a b = true ↔ okB (wF l) k1 k2 (a, b) := fun {a b} => by
    rw [← val_al hok.2.1 hok.2.2.2.1]
    exact val_okB (x := (a, b)) hok.2.2.2.1
  intro d
  induction d with
  | zero =>
    intro f cs hf hN
    simp only [kpN, List.mem_singleton]
    constructor
    · rintro rfl; trivial
    · intro h
      cases cs with
      | nil => rfl
      | cons x cs =>
        obtain ⟨h1, ⟨h2, h3, h4, _⟩, _⟩ := h
        omega
  | succ d ih =>
    intro f cs hf hN
    simp only [kpN, kpA, List.mem_cons, List.mem_flatMap, List.mem_range, kpB, kpC]
    constructor
    · rintro (rfl | ⟨i, hi, j, hj, h⟩)
      · trivial
      · split at h
        · rename_i hab
          rw [List.mem_map] at h
          obtain ⟨r, hr, rfl⟩ := h
          have ho := hal.1 hab
          have h2 := ho.2.1
          simp only at h2
          exact ⟨by simp only; omega, ho, (ih _ _ (by have := hok.2.2.2.2.2.2.1; omega) (by have := hok.2.2.2.2.2.2.1; omega)).1 hr⟩
        · simp at h
    · intro h
      cases cs with
      | nil => exact .inl rfl
      | cons x cs =>
        obtain ⟨h1, h2, h3⟩ := h
        obtain ⟨a, b⟩ := x
        have h2a := h2.2.1
        have h2b := h2.2.2.1
        have h2c := h2.2.2.2.1
        have h2d := h2.2.2.2.2.1
        simp only at h1 h2a h2b h2c h2d
        refine .inr ⟨(a - f).toNat, by omega, (b - a - k1).toNat, by omega, ?_⟩
        rw [show f + ((a - f).toNat : Int) = a by omega, show a + k1 + ((b - a - k1).toNat : Int) = b by omega, if_pos (hal.2 h2), List.mem_map]
        exact ⟨cs, (ih _ _ (by have := hok.2.2.2.2.2.2.1; have := h2.1; simp only at this; omega) (by have := hok.2.2.2.2.2.2.1; omega)).2 h3, rfl⟩

theorem pow3_le {m n : Nat} (h : m ≤ n) : 3 ^ m ≤ 3 ^ n := Nat.pow_le_pow_right (by omega) h
theorem kpB_len (hk1 : 1 ≤ k1) (hk3 : 0 ≤ k3) {a : Int} (hR : ∀ b, a < b → (R (b + k3)).length ≤ 3 ^ (lenF l - b).toNat) : ∀ j : Nat, 2 * (kpB l k1 k2 k3 R a j).length + 3 ^ (lenF l - (a + k1 + j) + 1).toNat ≤ 3 ^ (lenF l - (a + k1) + 1).toNat
  | 0 => by simp [kpB]
  | j + 1 => by
    have ih := kpB_len hk1 hk3 hR j
    rw [kpB_succ, List.length_append]
    unfold kpC
    split
    · rename_i hab
      have := al_out hab
      have hb := hR (a + k1 + j) (by omega)
      rw [List.length_map]
      have e1 : (lenF l - (a + k1 + j) + 1).toNat = (lenF l - (a + k1 + j)).toNat + 1 := by omega
      have e2 : (lenF l - (a + k1 + (j + 1 : Nat)) + 1).toNat = (lenF l - (a + k1 + j)).toNat := by omega
      rw [e1, Nat.pow_succ] at ih
      rw [e2]
      omega
    · have := pow3_le (m := (lenF l - (a + k1 + (j + 1 : Nat)) + 1).toNat) (n := (lenF l - (a + k1 + j) + 1).toNat) (by omega)
      simp only [List.length_nil]
      omega
theorem kpA_len (hk1 : 1 ≤ k1) (hk3 : 0 ≤ k3) {f : Int} (hR : ∀ a b, f ≤ a → a < b → (R (b + k3)).length ≤ 3 ^ (lenF l - b).toNat) : ∀ j : Nat, f + j ≤ lenF l → 4 * (kpA l k1 k2 k3 R f j).length + 3 * 3 ^ (lenF l - f - j).toNat ≤ 3 * 3 ^ (lenF l - f).toNat + 4
  | 0, h => by
    simp only [kpA_zero, List.length_singleton, Int.natCast_zero, Int.sub_zero]
    have : 1 ≤ 3 ^ (lenF l - f).toNat := Nat.one_le_pow _ _ (by omega)
    omega
  | j + 1, h => by
    have ih := kpA_len hk1 hk3 hR j (by omega)
    have hb := kpB_len (l := l) (k2 := k2) hk1 hk3 (a := f + j) (fun b hb => hR (f + j) b (by omega) hb) (k2 - k1 + 1).toNat
    have h1 := pow3_le (m := (lenF l - (f + j + k1) + 1).toNat) (n := (lenF l - f - j).toNat) (by omega)
    have e1 : (lenF l - f - j).toNat = (lenF l - f - (j + 1 : Nat)).toNat + 1 := by omega
    have h3 : 1 ≤ 3 ^ (lenF l - (f + ↑j + k1 + ↑(k2 - k1 + 1).toNat) + 1).toNat := Nat.one_le_pow _ _ (by omega)
    rw [kpA_succ, List.length_append]
    rw [e1, Nat.pow_succ] at ih h1
    omega
theorem kpN_len (hk1 : 1 ≤ k1) (hk3 : 0 ≤ k3) : ∀ (d : Nat) (f : Int), (kpN l k1 k2 k3 d f).length ≤ 3 ^ (lenF l - f).toNat
  | 0, f => by simp only [kpN, List.length_singleton]; exact Nat.one_le_pow _ _ (by omega)
  | d + 1, f => by
    have h := kpA_len (l := l) (k2 := k2) (R := kpN l k1 k2 k3 d) hk1 hk3 (f := f) (fun a b _ _ => Nat.le_trans (kpN_len hk1 hk3 d (b + k3)) (pow3_le (by omega))) (lenF l - f).toNat
    by_cases hf : f ≤ lenF l
    · have h2 := h (by omega)
      have : 1 ≤ 3 ^ (lenF l - f - ((lenF l - f).toNat : Int)).toNat := Nat.one_le_pow _ _ (by omega)
      simp only [kpN]
      omega
    · simp only [kpN]
      rw [show (lenF l - f).toNat = 0 by omega, kpA_zero]
      simp
end

/-- The better one of two. -/
noncomputable def upB (ws : List Int) (x b : List Bl) : List Bl := open Classical in if sbB ws x b then x else b
theorem sbB_irr (ws : List Int) (b : List Bl) : ¬ sbB ws b b := fun h => by
  unfold sbB at h
  rcases h with h | ⟨_, h | ⟨_, h⟩⟩
  · exact absurd h (Int.lt_irrefl _)
  · exact absurd h (Nat.lt_irrefl _)
  · rw [lexL_irrefl] at h; cases h
theorem upB_fold (ws : List Int) : ∀ (xs : List (List Bl)) (b : List Bl), ((xs.foldl (fun b x => upB ws x b) b) = b ∨ (xs.foldl (fun b x => upB ws x b) b) ∈ xs) ∧ (¬ sbB ws b (xs.foldl (fun b x => upB ws x b) b)) ∧ ∀ x ∈ xs, ¬ sbB ws x (xs.foldl (fun b x => upB ws x b) b)
  | [], b => ⟨.inl rfl, sbB_irr ws b, fun x hx => by cases hx⟩
  | y :: xs, b => by
    rw [List.foldl_cons]
    obtain ⟨h1, h2, h3⟩ := upB_fold ws xs (upB ws y b)
    have hu : (sbB ws y b ∧ upB ws y b = y) ∨ (¬ sbB ws y b ∧ upB ws y b = b) := by
      by_cases h : sbB ws y b
      · exact .inl ⟨h, if_pos h⟩
      · exact .inr ⟨h, if_neg h⟩
    generalize xs.foldl (fun b x => upB ws x b) (upB ws y b) = r at *
    have hr : ¬ sbB ws b r ∧ ¬ sbB ws y r := by
      rcases hu with ⟨q1, q2⟩ | ⟨q1, q2⟩
      · rw [q2] at h2
        exact ⟨fun h => h2 (sbB_trans q1 h), h2⟩
      · rw [q2] at h2
        refine ⟨h2, fun h => ?_⟩
        rcases h1 with e | hm
        · rw [e, q2] at h
          exact q1 h
        · by_cases hb : sbB ws r b
          · exact q1 (sbB_trans h hb)
          · have := sbB_uniq hb h2
            subst this
            exact q1 h
    refine ⟨?_, hr.1, fun x hx => ?_⟩
    · rcases h1 with e | hm
      · rcases hu with ⟨_, q2⟩ | ⟨_, q2⟩
        · exact .inr (by rw [e, q2]; simp)
        · exact .inl (by rw [e, q2])
      · exact .inr (by simp [hm])
    · rcases List.mem_cons.1 hx with rfl | hx
      · exact hr.2
      · exact h3 x hx
/-- Of all croppings the best is the one that Best returns. -/
theorem best_all {l : List St} {k1 k2 k3 : Int} (hc : checkF l (k1, k2, k3) = 0) {d : Nat} (hd : lenF l ≤ d) {b0 : List Bl} {xs : List (List Bl)} (he : kpN l k1 k2 k3 d 0 = b0 :: xs) :
    xs.foldl (fun b x => upB (wF l) x b) b0 = bestL l k1 k2 k3 := by
  have hok := checkF_ok hc
  have hl := wF_len l hok.2.1
  have hws := wF_in hok.2.1
  obtain ⟨h1, h2, h3⟩ := upB_fold (wF l) xs b0
  have hmem : ∀ cs, cs ∈ b0 :: xs ↔ crpF (wF l) k1 k2 k3 0 cs := fun cs => by
    rw [← he]
    exact kpN_mem hc d 0 cs (by omega) (by omega)
  have eb : bestL l k1 k2 k3 = bwP (wF l) k1 k2 k3 0 := if_pos hc
  have hbc := (bwP_crop (s2 := k2) hws hok.2.2.2.1 hok.2.2.2.2.2.2.1 (p := 0) (by omega)).1
  generalize xs.foldl (fun b x => upB (wF l) x b) b0 = r at *
  have hrm : r ∈ b0 :: xs := by
    rcases h1 with e | hm
    · rw [e]; simp
    · simp [hm]
  have hr1 : ¬ sbB (wF l) r (bwP (wF l) k1 k2 k3 0) := best_min hws hok.2.2.2.1 hok.2.2.2.2.2.2.1 (wF l).length 0 (by omega) r ((hmem r).1 hrm)
  have hr2 : ¬ sbB (wF l) (bwP (wF l) k1 k2 k3 0) r := by
    rcases List.mem_cons.1 ((hmem _).2 hbc) with e | hm
    · rw [e]; exact h2
    · exact h3 _ hm
  rw [eb]
  exact sbB_uniq hr1 hr2
end Go.Proofs.Ytlkfcbdbieenhaa
namespace Go.Proofs.Ytlkfcbdbieenhaa
open Go.RowKit Go.Vm
set_option maxRecDepth 100000

theorem getE0 {xs : List St} {i : Nat} (hi : i < xs.length) : (rows eII xs)[i * 2]? = some (.int .i64 (nth xs i).1) := rows_get0 (f := eII) hi (by omega)
theorem getE1 {xs : List St} {i : Nat} (hi : i < xs.length) : (rows eII xs)[i * 2 + 1]? = some (.int .i64 (nth xs i).2) := rows_get (f := eII) (j := 1) hi (by omega)
theorem drop_nth {xs : List St} {i : Nat} (hi : i < xs.length) : xs.drop i = nth xs i :: xs.drop (i + 1) := by
  rw [List.drop_eq_getElem_cons hi, ← (List.getElem?_eq_some_iff.1 (get_nth hi)).2]

theorem lexL_cons (x y : Bl) (a b : List Bl) : lexL (x :: a) (y :: b) = if x.1 ≠ y.1 then decide (x.1 < y.1) else if x.2 ≠ y.2 then decide (x.2 < y.2) else lexL a b := rfl
abbrev H2 (cs ds : List Value) : AH := Hp 3 [none, some (.cells ⟨cs, 0, false⟩), some (.cells ⟨ds, 0, false⟩)]
/- boule/bouleref07.Less · slots 62 · names 0:a 1:b 2:a 3:b 5:i · results [4] -/
def ir52_r0 : IC := .reg [⟨some 4, none, false, .mv (.k (.bool false))⟩] (some [0, 1])
def ir52_r1 : IC := .reg [⟨some 5, none, false, .mv (.k (.int .i64 0))⟩] (some [0, 1, 5])
def ir52_r2 : IC := .reg [⟨some 6, none, false, .mv (.t 5)⟩,
  ⟨some 7, none, false, .mv (.t 0)⟩,
  ⟨some 8, none, false, .len (.t 7)⟩,
  ⟨some 9, none, false, .cmp .lss (.t 6) (.t 8)⟩,
  ⟨some 10, none, false, .mv (.t 9)⟩,
  ⟨some 11, some (10, true), false, .mv (.t 5)⟩,
  ⟨some 12, some (10, true), false, .mv (.t 1)⟩,
  ⟨some 13, some (10, true), false, .len (.t 12)⟩,
  ⟨some 14, some (10, true), false, .cmp .lss (.t 11) (.t 13)⟩,
  ⟨some 15, none, false, .pick (.t 10) (.t 14) (.k (.bool false))⟩] (some [0, 1, 5, 15])
def ir52_1 : IC := .cond (.t 15) .skip (.exit 0)
def ir52_2 : IC := .seq ir52_r2 ir52_1
def ir52_r4 : IC := .draw [(⟨some 18, none, false, .mv (.t 0)⟩, false, 0, 0),
  (⟨some 19, none, false, .mv (.t 5)⟩, false, 0, 0),
  (⟨some 20, none, false, .iad 2 (.t 18) (.t 19)⟩, false, 3, 0),
  (⟨some 21, none, false, .fad 0 (.t 20)⟩, false, 7, 0),
  (⟨some 22, none, false, .ldc (.t 21)⟩, false, 15, 1),
  (⟨some 23, none, false, .mv (.t 1)⟩, false, 0, 0),
  (⟨some 24, none, false, .mv (.t 5)⟩, false, 0, 0),
  (⟨some 25, none, false, .iad 2 (.t 23) (.t 24)⟩, false, 96, 0),
  (⟨some 26, none, false, .fad 0 (.t 25)⟩, false, 224, 0),
  (⟨some 27, none, false, .ldc (.t 26)⟩, false, 480, 16),
  (⟨some 28, none, false, .cmp .neq (.t 22) (.t 27)⟩, false, 1023, 0)] (some [0, 1, 5, 28])
def ir52_r5 : IC := .draw [(⟨some 29, none, false, .mv (.t 0)⟩, false, 0, 0),
  (⟨some 30, none, false, .mv (.t 5)⟩, false, 0, 0),
  (⟨some 31, none, false, .iad 2 (.t 29) (.t 30)⟩, false, 3, 0),
  (⟨some 32, none, false, .fad 0 (.t 31)⟩, false, 7, 0),
  (⟨some 33, none, false, .ldc (.t 32)⟩, false, 15, 1),
  (⟨some 34, none, false, .mv (.t 1)⟩, false, 0, 0),
  (⟨some 35, none, false, .mv (.t 5)⟩, false, 0, 0),
  (⟨some 36, none, false, .iad 2 (.t 34) (.t 35)⟩, false, 96, 0),
  (⟨some 37, none, false, .fad 0 (.t 36)⟩, false, 224, 0),
  (⟨some 38, none, false, .ldc (.t 37)⟩, false, 480, 16),
  (⟨some 39, none, false, .cmp .lss (.t 33) (.t 38)⟩, false, 1023, 0),
  (⟨some 4, none, false, .mv (.t 39)⟩, false, 2047, 0)] (some [4])
def ir52_3 : IC := .seq ir52_r5 .ret
def ir52_4 : IC := .cond (.t 28) ir52_3 .skip
def ir52_5 : IC := .seq ir52_r4 ir52_4
def ir52_r6 : IC := .draw [(⟨some 40, none, false, .mv (.t 0)⟩, false, 0, 0),
  (⟨some 41, none, false, .mv (.t 5)⟩, false, 0, 0),
  (⟨some 42, none, false, .iad 2 (.t 40) (.t 41)⟩, false, 3, 0),
  (⟨some 43, none, false, .fad 1 (.t 42)⟩, false, 7, 0),
  (⟨some 44, none, false, .ldc (.t 43)⟩, false, 15, 1),
  (⟨some 45, none, false, .mv (.t 1)⟩, false, 0, 0),
  (⟨some 46, none, false, .mv (.t 5)⟩, false, 0, 0),
  (⟨some 47, none, false, .iad 2 (.t 45) (.t 46)⟩, false, 96, 0),
  (⟨some 48, none, false, .fad 1 (.t 47)⟩, false, 224, 0),
  (⟨some 49, none, false, .ldc (.t 48)⟩, false, 480, 16),
  (⟨some 50, none, false, .cmp .neq (.t 44) (.t 49)⟩, false, 1023, 0)] (some [0, 1, 5, 50])
def ir52_r7 : IC := .draw [(⟨some 51, none, false, .mv (.t 0)⟩, false, 0, 0),
  (⟨some 52, none, false, .mv (.t 5)⟩, false, 0, 0),
  (⟨some 53, none, false, .iad 2 (.t 51) (.t 52)⟩, false, 3, 0),
  (⟨some 54, none, false, .fad 1 (.t 53)⟩, false, 7, 0),
  (⟨some 55, none, false, .ldc (.t 54)⟩, false, 15, 1),
  (⟨some 56, none, false, .mv (.t 1)⟩, false, 0, 0),
  (⟨some 57, none, false, .mv (.t 5)⟩, false, 0, 0),
  (⟨some 58, none, false, .iad 2 (.t 56) (.t 57)⟩, false, 96, 0),
  (⟨some 59, none, false, .fad 1 (.t 58)⟩, false, 224, 0),
  (⟨some 60, none, false, .ldc (.t 59)⟩, false, 480, 16),
  (⟨some 61, none, false, .cmp .lss (.t 55) (.t 60)⟩, false, 1023, 0),
  (⟨some 4, none, false, .mv (.t 61)⟩, false, 2047, 0)] (some [4])
def ir52_6 : IC := .seq ir52_r7 .ret
def ir52_7 : IC := .cond (.t 50) ir52_6 .skip
def ir52_8 : IC := .seq ir52_r6 ir52_7
def ir52_9 : IC := .seq ir52_5 ir52_8
def ir52_10 : IC := .block 1 ir52_9
def ir52_r3 : IC := .reg [⟨some 16, none, false, .mv (.t 5)⟩,
  ⟨some 17, none, false, .ar .add (.t 16) (.k (.int .i64 1))⟩,
  ⟨some 5, none, false, .mv (.t 17)⟩] (some [0, 1, 5])
def ir52_11 : IC := .seq ir52_10 ir52_r3
def ir52_12 : IC := .seq ir52_2 ir52_11
def ir52_13 : IC := .loop ir52_12
def ir52_14 : IC := .block 0 ir52_13
def ir52_15 : IC := .seq ir52_r1 ir52_14
def ir52_r8 : IC := .reg [⟨some 4, none, false, .mv (.k (.bool false))⟩] (some [4])
def ir52_16 : IC := .seq ir52_r8 .ret
def ir52_17 : IC := .seq ir52_15 ir52_16
def ir52_18 : IC := .seq ir52_r0 ir52_17
def ir52 : IC := ir52_18
theorem fn52 : FnIs Try.prog 52 ir52 62 [.tmp 4] := ⟨Try.f52, Try.f52.body.getD .skip, Try.func52, by kernel_rfl, by kernel_rfl, by kernel_rfl, by kernel_rfl⟩
/- boule/boulelaw07.same · slots 26 · names 0:a 1:b 2:a 3:b 5:i · results [4] -/
def ir18_r0 : IC := .reg [⟨some 4, none, false, .mv (.k (.bool false))⟩] (some [0, 1])
def ir18_r1 : IC := .reg [⟨some 6, none, false, .mv (.t 0)⟩,
  ⟨some 7, none, false, .len (.t 6)⟩,
  ⟨some 8, none, false, .mv (.t 1)⟩,
  ⟨some 9, none, false, .len (.t 8)⟩,
  ⟨some 10, none, false, .cmp .neq (.t 7) (.t 9)⟩] (some [0, 1, 10])
def ir18_r2 : IC := .reg [⟨some 4, none, false, .mv (.k (.bool false))⟩] (some [4])
def ir18_1 : IC := .seq ir18_r2 .ret
def ir18_2 : IC := .cond (.t 10) ir18_1 .skip
def ir18_3 : IC := .seq ir18_r1 ir18_2
def ir18_r3 : IC := .reg [⟨some 5, none, false, .mv (.k (.int .i64 0))⟩] (some [0, 1, 5])
def ir18_r4 : IC := .reg [⟨some 11, none, false, .mv (.t 5)⟩,
  ⟨some 12, none, false, .mv (.t 0)⟩,
  ⟨some 13, none, false, .len (.t 12)⟩,
  ⟨some 14, none, false, .cmp .lss (.t 11) (.t 13)⟩] (some [0, 1, 5, 14])
def ir18_4 : IC := .cond (.t 14) .skip (.exit 0)
def ir18_5 : IC := .seq ir18_r4 ir18_4
def ir18_r6 : IC := .draw [(⟨some 17, none, false, .mv (.t 0)⟩, false, 0, 0),
  (⟨some 18, none, false, .mv (.t 5)⟩, false, 0, 0),
  (⟨some 19, none, false, .iad 2 (.t 17) (.t 18)⟩, false, 3, 0),
  (⟨some 20, none, false, .lda 2 (.t 19)⟩, false, 7, 1),
  (⟨some 21, none, false, .mv (.t 1)⟩, false, 0, 0),
  (⟨some 22, none, false, .mv (.t 5)⟩, false, 0, 0),
  (⟨some 23, none, false, .iad 2 (.t 21) (.t 22)⟩, false, 48, 0),
  (⟨some 24, none, false, .lda 2 (.t 23)⟩, false, 112, 8),
  (⟨some 25, none, false, .eqs true [false, false] (.t 20) (.t 24)⟩, false, 255, 0)] (some [0, 1, 5, 25])
def ir18_r7 : IC := .reg [⟨some 4, none, false, .mv (.k (.bool false))⟩] (some [4])
def ir18_6 : IC := .seq ir18_r7 .ret
def ir18_7 : IC := .cond (.t 25) ir18_6 .skip
def ir18_8 : IC := .seq ir18_r6 ir18_7
def ir18_9 : IC := .block 1 ir18_8
def ir18_r5 : IC := .reg [⟨some 15, none, false, .mv (.t 5)⟩,
  ⟨some 16, none, false, .ar .add (.t 15) (.k (.int .i64 1))⟩,
  ⟨some 5, none, false, .mv (.t 16)⟩] (some [0, 1, 5])
def ir18_10 : IC := .seq ir18_9 ir18_r5
def ir18_11 : IC := .seq ir18_5 ir18_10
def ir18_12 : IC := .loop ir18_11
def ir18_13 : IC := .block 0 ir18_12
def ir18_14 : IC := .seq ir18_r3 ir18_13
def ir18_r8 : IC := .reg [⟨some 4, none, false, .mv (.k (.bool true))⟩] (some [4])
def ir18_15 : IC := .seq ir18_r8 .ret
def ir18_16 : IC := .seq ir18_14 ir18_15
def ir18_17 : IC := .seq ir18_3 ir18_16
def ir18_18 : IC := .seq ir18_r0 ir18_17
def ir18 : IC := ir18_18
theorem fn18 : FnIs Try.prog 18 ir18 26 [.tmp 4] := ⟨Try.f18, Try.f18.body.getD .skip, Try.func18, by kernel_rfl, by kernel_rfl, by kernel_rfl, by kernel_rfl⟩
theorem less_c (n c m d : Nat) (a b : List Bl) (hn : a.length = n) (hm : b.length = m) (hb : n ≤ 1000000) : Fc Try.prog 52 [s1 n c, .slice (some ⟨2, 0, none⟩) m d] (H2 (rows eII a) (rows eII b)) (.bool (lexL a b)) (H2 (rows eII a) (rows eII b)) := by
  refine Fc.intro0 fn52 (by simp) rfl rfl ?_; simp only [argF]
  refine ITri.seq ?_
  refine ITri.reg pok ?_; simp -implicitDefEqProofs (disch := first | decide | exact of_eq_true (eq_true rfl) | omega | assumption) only [ ↓vcD, vcE, evs, evP, evB, intsOf, fillC, Value.cells, pt, List.append_nil, List.nil_append, List.cons_append, List.length_cons, List.length_nil, List.filter_nil, List.map_nil, ↓List.getElem?_cons_zero, ↓List.getElem?_cons_succ, List.getElem?_cons_zero, List.getElem?_cons_succ, List.set_cons_zero, List.set_cons_succ, Option.join_some, Option.join_none, Option.map_some, List.all_cons, List.all_nil, Value.oneCell', reduceIte, reduceCtorEq, Nat.reduceEqDiff, Nat.reduceAdd, Nat.reduceMul, Nat.reduceLT, Nat.reduceBEq, Nat.reduceLeDiff, Nat.reduceSub, List.size_toArray] -- r0 ref.go:99
  refine ITri.seq ?_
  refine ITri.seq ?_
  refine ITri.reg pok ?_; simp -implicitDefEqProofs (disch := first | decide | exact of_eq_true (eq_true rfl) | omega | assumption) only [ ↓vcD, vcE, evs, evP, evB, intsOf, fillC, Value.cells, pt, List.append_nil, List.nil_append, List.cons_append, List.length_cons, List.length_nil, List.filter_nil, List.map_nil, ↓List.getElem?_cons_zero, ↓List.getElem?_cons_succ, List.getElem?_cons_zero, List.getElem?_cons_succ, List.set_cons_zero, List.set_cons_succ, Option.join_some, Option.join_none, Option.map_some, List.all_cons, List.all_nil, Value.oneCell', reduceIte, reduceCtorEq, Nat.reduceEqDiff, Nat.reduceAdd, Nat.reduceMul, Nat.reduceLT, Nat.reduceBEq, Nat.reduceLeDiff, Nat.reduceSub, List.size_toArray] -- r1 ref.go:100
  refine ITri.block ?_ -- 0
  refine ITri.loop (fun k : Nat => [(0, s1 n c), (1, .slice (some ⟨2, 0, none⟩) m d), (5, .int .i64 k)]) (fun _ => []) (fun k => H2 (rows eII a) (rows eII b)) (fun k => k ≤ n ∧ k ≤ m ∧ lexL a b = lexL (a.drop k) (b.drop k)) (fun k => n - k) 0 ⟨Nat.zero_le _, Nat.zero_le _, rfl⟩ (Wk.sub ⟨rfl, rfl, rfl, trivial⟩) fun k hk => ?_
  obtain ⟨hk1, hk2, hk3⟩ := hk
  refine ITri.seq ?_
  refine ITri.seq ?_
  by_cases g1 : (k : Int) < n
  rotate_left
  · have hd : a.drop k = [] := List.drop_of_length_le (by omega)
    have he : lexL a b = false := by rw [hk3, hd]; rfl
    refine ITri.reg pok ?_; simp -implicitDefEqProofs (disch := first | decide | exact of_eq_true (eq_true rfl) | omega | assumption) only [g1, decide_false,  ↓vcD, vcE, evs, evP, evB, intsOf, fillC, Value.cells, pt, List.append_nil, List.nil_append, List.cons_append, List.length_cons, List.length_nil, List.filter_nil, List.map_nil, ↓List.getElem?_cons_zero, ↓List.getElem?_cons_succ, List.getElem?_cons_zero, List.getElem?_cons_succ, List.set_cons_zero, List.set_cons_succ, Option.join_some, Option.join_none, Option.map_some, List.all_cons, List.all_nil, Value.oneCell', reduceIte, reduceCtorEq, Nat.reduceEqDiff, Nat.reduceAdd, Nat.reduceMul, Nat.reduceLT, Nat.reduceBEq, Nat.reduceLeDiff, Nat.reduceSub, List.size_toArray]
    refine ITri.cond (v := false) rfl (fun h => by cases h) (fun _ => ?_)
    refine ITri.exit ?_; try simp -implicitDefEqProofs (disch := first | decide | exact of_eq_true (eq_true rfl) | omega | assumption) only [ ↓vcD, vcE, evs, evP, evB, intsOf, fillC, Value.cells, pt, List.append_nil, List.nil_append, List.cons_append, List.length_cons, List.length_nil, List.filter_nil, List.map_nil, ↓List.getElem?_cons_zero, ↓List.getElem?_cons_succ, List.getElem?_cons_zero, List.getElem?_cons_succ, List.set_cons_zero, List.set_cons_succ, Option.join_some, Option.join_none, Option.map_some, List.all_cons, List.all_nil, Value.oneCell', reduceIte, reduceCtorEq, Nat.reduceEqDiff, Nat.reduceAdd, Nat.reduceMul, Nat.reduceLT, Nat.reduceBEq, Nat.reduceLeDiff, Nat.reduceSub, List.size_toArray]
    refine ITri.seq ?_
    refine ITri.reg pok ?_; simp -implicitDefEqProofs (disch := first | decide | exact of_eq_true (eq_true rfl) | omega | assumption) only [ ↓vcD, vcE, evs, evP, evB, intsOf, fillC, Value.cells, pt, List.append_nil, List.nil_append, List.cons_append, List.length_cons, List.length_nil, List.filter_nil, List.map_nil, ↓List.getElem?_cons_zero, ↓List.getElem?_cons_succ, List.getElem?_cons_zero, List.getElem?_cons_succ, List.set_cons_zero, List.set_cons_succ, Option.join_some, Option.join_none, Option.map_some, List.all_cons, List.all_nil, Value.oneCell', reduceIte, reduceCtorEq, Nat.reduceEqDiff, Nat.reduceAdd, Nat.reduceMul, Nat.reduceLT, Nat.reduceBEq, Nat.reduceLeDiff, Nat.reduceSub, List.size_toArray]
    refine ITri.ret ?_; exact EndR.plain (by simp) (by rfl) (by rw [he]; rfl) (by rfl)
  by_cases g2 : (k : Int) < m
  rotate_left
  · have hd : b.drop k = [] := List.drop_of_length_le (by omega)
    have he : lexL a b = false := by rw [hk3, hd]; cases a.drop k <;> rfl
    refine ITri.reg pok ?_; simp -implicitDefEqProofs (disch := first | decide | exact of_eq_true (eq_true rfl) | omega | assumption) only [g1, g2, decide_false, decide_true,  ↓vcD, vcE, evs, evP, evB, intsOf, fillC, Value.cells, pt, List.append_nil, List.nil_append, List.cons_append, List.length_cons, List.length_nil, List.filter_nil, List.map_nil, ↓List.getElem?_cons_zero, ↓List.getElem?_cons_succ, List.getElem?_cons_zero, List.getElem?_cons_succ, List.set_cons_zero, List.set_cons_succ, Option.join_some, Option.join_none, Option.map_some, List.all_cons, List.all_nil, Value.oneCell', reduceIte, reduceCtorEq, Nat.reduceEqDiff, Nat.reduceAdd, Nat.reduceMul, Nat.reduceLT, Nat.reduceBEq, Nat.reduceLeDiff, Nat.reduceSub, List.size_toArray]
    refine ITri.cond (v := false) rfl (fun h => by cases h) (fun _ => ?_)
    refine ITri.exit ?_; try simp -implicitDefEqProofs (disch := first | decide | exact of_eq_true (eq_true rfl) | omega | assumption) only [ ↓vcD, vcE, evs, evP, evB, intsOf, fillC, Value.cells, pt, List.append_nil, List.nil_append, List.cons_append, List.length_cons, List.length_nil, List.filter_nil, List.map_nil, ↓List.getElem?_cons_zero, ↓List.getElem?_cons_succ, List.getElem?_cons_zero, List.getElem?_cons_succ, List.set_cons_zero, List.set_cons_succ, Option.join_some, Option.join_none, Option.map_some, List.all_cons, List.all_nil, Value.oneCell', reduceIte, reduceCtorEq, Nat.reduceEqDiff, Nat.reduceAdd, Nat.reduceMul, Nat.reduceLT, Nat.reduceBEq, Nat.reduceLeDiff, Nat.reduceSub, List.size_toArray]
    refine ITri.seq ?_
    refine ITri.reg pok ?_; simp -implicitDefEqProofs (disch := first | decide | exact of_eq_true (eq_true rfl) | omega | assumption) only [ ↓vcD, vcE, evs, evP, evB, intsOf, fillC, Value.cells, pt, List.append_nil, List.nil_append, List.cons_append, List.length_cons, List.length_nil, List.filter_nil, List.map_nil, ↓List.getElem?_cons_zero, ↓List.getElem?_cons_succ, List.getElem?_cons_zero, List.getElem?_cons_succ, List.set_cons_zero, List.set_cons_succ, Option.join_some, Option.join_none, Option.map_some, List.all_cons, List.all_nil, Value.oneCell', reduceIte, reduceCtorEq, Nat.reduceEqDiff, Nat.reduceAdd, Nat.reduceMul, Nat.reduceLT, Nat.reduceBEq, Nat.reduceLeDiff, Nat.reduceSub, List.size_toArray]
    refine ITri.ret ?_; exact EndR.plain (by simp) (by rfl) (by rw [he]; rfl) (by rfl)
  have ha : k < a.length := by omega
  have hb2 : k < b.length := by omega
  rw [drop_nth ha, drop_nth hb2] at hk3
  rw [lexL_cons] at hk3
  refine ITri.reg pok ?_; simp -implicitDefEqProofs (disch := first | decide | exact of_eq_true (eq_true rfl) | omega | assumption) only [g1, g2, decide_true,  ↓vcD, vcE, evs, evP, evB, intsOf, fillC, Value.cells, pt, List.append_nil, List.nil_append, List.cons_append, List.length_cons, List.length_nil, List.filter_nil, List.map_nil, ↓List.getElem?_cons_zero, ↓List.getElem?_cons_succ, List.getElem?_cons_zero, List.getElem?_cons_succ, List.set_cons_zero, List.set_cons_succ, Option.join_some, Option.join_none, Option.map_some, List.all_cons, List.all_nil, Value.oneCell', reduceIte, reduceCtorEq, Nat.reduceEqDiff, Nat.reduceAdd, Nat.reduceMul, Nat.reduceLT, Nat.reduceBEq, Nat.reduceLeDiff, Nat.reduceSub, List.size_toArray] -- r2
  refine ITri.cond (v := true) rfl (fun _ => ?_) (fun h => by cases h)
  refine ITri.skip ?_; simp only [SeqQ_normal, BlkQ_normal]
  refine ITri.seq ?_
  refine ITri.block ?_ -- 1
  refine ITri.seq ?_
  refine ITri.seq ?_
  refine ITri.draw pok ?_; simp -implicitDefEqProofs (disch := first | decide | exact of_eq_true (eq_true rfl) | omega | assumption) only [getE0,  ↓vcD, vcE, evs, evP, evB, intsOf, fillC, Value.cells, pt, List.append_nil, List.nil_append, List.cons_append, List.length_cons, List.length_nil, List.filter_nil, List.map_nil, ↓List.getElem?_cons_zero, ↓List.getElem?_cons_succ, List.getElem?_cons_zero, List.getElem?_cons_succ, List.set_cons_zero, List.set_cons_succ, Option.join_some, Option.join_none, Option.map_some, List.all_cons, List.all_nil, Value.oneCell', reduceIte, reduceCtorEq, Nat.reduceEqDiff, Nat.reduceAdd, Nat.reduceMul, Nat.reduceLT, Nat.reduceBEq, Nat.reduceLeDiff, Nat.reduceSub, List.size_toArray] -- r4 ref.go:101
  refine ITri.condN (by rfl) (fun h3 => ?_) (fun h3 => ?_) -- %28
  · refine ITri.seq ?_
    refine ITri.draw pok ?_; simp -implicitDefEqProofs (disch := first | decide | exact of_eq_true (eq_true rfl) | omega | assumption) only [getE0,  ↓vcD, vcE, evs, evP, evB, intsOf, fillC, Value.cells, pt, List.append_nil, List.nil_append, List.cons_append, List.length_cons, List.length_nil, List.filter_nil, List.map_nil, ↓List.getElem?_cons_zero, ↓List.getElem?_cons_succ, List.getElem?_cons_zero, List.getElem?_cons_succ, List.set_cons_zero, List.set_cons_succ, Option.join_some, Option.join_none, Option.map_some, List.all_cons, List.all_nil, Value.oneCell', reduceIte, reduceCtorEq, Nat.reduceEqDiff, Nat.reduceAdd, Nat.reduceMul, Nat.reduceLT, Nat.reduceBEq, Nat.reduceLeDiff, Nat.reduceSub, List.size_toArray] -- r5 ref.go:102
    refine ITri.ret ?_; exact EndR.plain (by simp) (by rfl) (by rw [hk3, if_pos h3]; rfl) (by rfl)
  refine ITri.skip ?_; simp only [SeqQ_normal, BlkQ_normal]
  rw [if_neg (by simpa using h3)] at hk3
  refine ITri.seq ?_
  refine ITri.draw pok ?_; simp -implicitDefEqProofs (disch := first | decide | exact of_eq_true (eq_true rfl) | omega | assumption) only [getE1,  ↓vcD, vcE, evs, evP, evB, intsOf, fillC, Value.cells, pt, List.append_nil, List.nil_append, List.cons_append, List.length_cons, List.length_nil, List.filter_nil, List.map_nil, ↓List.getElem?_cons_zero, ↓List.getElem?_cons_succ, List.getElem?_cons_zero, List.getElem?_cons_succ, List.set_cons_zero, List.set_cons_succ, Option.join_some, Option.join_none, Option.map_some, List.all_cons, List.all_nil, Value.oneCell', reduceIte, reduceCtorEq, Nat.reduceEqDiff, Nat.reduceAdd, Nat.reduceMul, Nat.reduceLT, Nat.reduceBEq, Nat.reduceLeDiff, Nat.reduceSub, List.size_toArray] -- r6 ref.go:104
  refine ITri.condN (by rfl) (fun h4 => ?_) (fun h4 => ?_) -- %50
  · refine ITri.seq ?_
    refine ITri.draw pok ?_; simp -implicitDefEqProofs (disch := first | decide | exact of_eq_true (eq_true rfl) | omega | assumption) only [getE1,  ↓vcD, vcE, evs, evP, evB, intsOf, fillC, Value.cells, pt, List.append_nil, List.nil_append, List.cons_append, List.length_cons, List.length_nil, List.filter_nil, List.map_nil, ↓List.getElem?_cons_zero, ↓List.getElem?_cons_succ, List.getElem?_cons_zero, List.getElem?_cons_succ, List.set_cons_zero, List.set_cons_succ, Option.join_some, Option.join_none, Option.map_some, List.all_cons, List.all_nil, Value.oneCell', reduceIte, reduceCtorEq, Nat.reduceEqDiff, Nat.reduceAdd, Nat.reduceMul, Nat.reduceLT, Nat.reduceBEq, Nat.reduceLeDiff, Nat.reduceSub, List.size_toArray] -- r7 ref.go:105
    refine ITri.ret ?_; exact EndR.plain (by simp) (by rfl) (by rw [hk3, if_pos h4]; rfl) (by rfl)
  refine ITri.skip ?_; simp only [SeqQ_normal, BlkQ_normal]
  rw [if_neg (by simpa using h4)] at hk3
  refine ITri.reg pok ?_; simp -implicitDefEqProofs (disch := first | decide | exact of_eq_true (eq_true rfl) | omega | assumption) only [ ↓vcD, vcE, evs, evP, evB, intsOf, fillC, Value.cells, pt, List.append_nil, List.nil_append, List.cons_append, List.length_cons, List.length_nil, List.filter_nil, List.map_nil, ↓List.getElem?_cons_zero, ↓List.getElem?_cons_succ, List.getElem?_cons_zero, List.getElem?_cons_succ, List.set_cons_zero, List.set_cons_succ, Option.join_some, Option.join_none, Option.map_some, List.all_cons, List.all_nil, Value.oneCell', reduceIte, reduceCtorEq, Nat.reduceEqDiff, Nat.reduceAdd, Nat.reduceMul, Nat.reduceLT, Nat.reduceBEq, Nat.reduceLeDiff, Nat.reduceSub, List.size_toArray] -- r3 ref.go:100
  refine LoopQ.next (k + 1) ⟨by omega, by omega, hk3⟩ (by omega) (Wk.sub ⟨rfl, rfl, rfl, trivial⟩)

theorem less_f (n m : Nat) (a b : List Bl) (hn : a.length = n) (hm : b.length = m) (hb : n ≤ 1000000) {h : AH} {s t : Value} (h0 : h.sees 0 = true) (r : Rd h s n (rows eII a)) (r2 : Rd h t m (rows eII b)) :
    Fc Try.prog 52 [s, t] h (.bool (lexL a b)) h :=
  Fc.lift2 (mk := fun ss => ss ++ []) (mkv := fun _ => .bool (lexL a b)) (os := []) (fun c d => less_c n c m d a b hn hm hb) (MkL.app rfl) (MkV.const rfl) (rows_no (f := eII) a) (rows_no (f := eII) b) (fun o ho => by cases ho) h0 r r2

theorem same_c (n c m d : Nat) (a b : List Bl) (hn : a.length = n) (hm : b.length = m) (hb : n ≤ 1000000) : Fc Try.prog 18 [s1 n c, .slice (some ⟨2, 0, none⟩) m d] (H2 (rows eII a) (rows eII b)) (.bool (decide (a = b))) (H2 (rows eII a) (rows eII b)) := by
  refine Fc.intro0 fn18 (by simp) rfl rfl ?_; simp only [argF]
  refine ITri.seq ?_
  refine ITri.reg pok ?_; simp -implicitDefEqProofs (disch := first | decide | exact of_eq_true (eq_true rfl) | omega | assumption) only [ ↓vcD, vcE, evs, evP, evB, intsOf, fillC, Value.cells, pt, List.append_nil, List.nil_append, List.cons_append, List.length_cons, List.length_nil, List.filter_nil, List.map_nil, ↓List.getElem?_cons_zero, ↓List.getElem?_cons_succ, List.getElem?_cons_zero, List.getElem?_cons_succ, List.set_cons_zero, List.set_cons_succ, Option.join_some, Option.join_none, Option.map_some, List.all_cons, List.all_nil, Value.oneCell', reduceIte, reduceCtorEq, Nat.reduceEqDiff, Nat.reduceAdd, Nat.reduceMul, Nat.reduceLT, Nat.reduceBEq, Nat.reduceLeDiff, Nat.reduceSub, List.size_toArray] -- r0 law.go:25
  refine ITri.seq ?_
  refine ITri.seq ?_
  refine ITri.reg pok ?_; simp -implicitDefEqProofs (disch := first | decide | exact of_eq_true (eq_true rfl) | omega | assumption) only [ ↓vcD, vcE, evs, evP, evB, intsOf, fillC, Value.cells, pt, List.append_nil, List.nil_append, List.cons_append, List.length_cons, List.length_nil, List.filter_nil, List.map_nil, ↓List.getElem?_cons_zero, ↓List.getElem?_cons_succ, List.getElem?_cons_zero, List.getElem?_cons_succ, List.set_cons_zero, List.set_cons_succ, Option.join_some, Option.join_none, Option.map_some, List.all_cons, List.all_nil, Value.oneCell', reduceIte, reduceCtorEq, Nat.reduceEqDiff, Nat.reduceAdd, Nat.reduceMul, Nat.reduceLT, Nat.reduceBEq, Nat.reduceLeDiff, Nat.reduceSub, List.size_toArray] -- r1 law.go:26
  refine ITri.condN (by rfl) (fun h1 => ?_) (fun h1 => ?_) -- %10
  · refine ITri.seq ?_
    refine ITri.reg pok ?_; simp -implicitDefEqProofs (disch := first | decide | exact of_eq_true (eq_true rfl) | omega | assumption) only [ ↓vcD, vcE, evs, evP, evB, intsOf, fillC, Value.cells, pt, List.append_nil, List.nil_append, List.cons_append, List.length_cons, List.length_nil, List.filter_nil, List.map_nil, ↓List.getElem?_cons_zero, ↓List.getElem?_cons_succ, List.getElem?_cons_zero, List.getElem?_cons_succ, List.set_cons_zero, List.set_cons_succ, Option.join_some, Option.join_none, Option.map_some, List.all_cons, List.all_nil, Value.oneCell', reduceIte, reduceCtorEq, Nat.reduceEqDiff, Nat.reduceAdd, Nat.reduceMul, Nat.reduceLT, Nat.reduceBEq, Nat.reduceLeDiff, Nat.reduceSub, List.size_toArray] -- r2 law.go:27
    refine ITri.ret ?_; exact EndR.plain (by simp) (by rfl) (by rw [decide_eq_false (fun e => h1 (by rw [← hn, ← hm, e]))]; rfl) (by rfl)
  refine ITri.skip ?_; simp only [SeqQ_normal, BlkQ_normal]
  refine ITri.seq ?_
  refine ITri.seq ?_
  refine ITri.reg pok ?_; simp -implicitDefEqProofs (disch := first | decide | exact of_eq_true (eq_true rfl) | omega | assumption) only [ ↓vcD, vcE, evs, evP, evB, intsOf, fillC, Value.cells, pt, List.append_nil, List.nil_append, List.cons_append, List.length_cons, List.length_nil, List.filter_nil, List.map_nil, ↓List.getElem?_cons_zero, ↓List.getElem?_cons_succ, List.getElem?_cons_zero, List.getElem?_cons_succ, List.set_cons_zero, List.set_cons_succ, Option.join_some, Option.join_none, Option.map_some, List.all_cons, List.all_nil, Value.oneCell', reduceIte, reduceCtorEq, Nat.reduceEqDiff, Nat.reduceAdd, Nat.reduceMul, Nat.reduceLT, Nat.reduceBEq, Nat.reduceLeDiff, Nat.reduceSub, List.size_toArray] -- r3 law.go:29
  refine ITri.block ?_ -- 0
  refine ITri.loop (fun k : Nat => [(0, s1 n c), (1, .slice (some ⟨2, 0, none⟩) m d), (5, .int .i64 k)]) (fun _ => []) (fun k => H2 (rows eII a) (rows eII b)) (fun k => k ≤ n ∧ ∀ j, j < k → nth a j = nth b j) (fun k => n - k) 0 ⟨Nat.zero_le _, fun j hj => by omega⟩ (Wk.sub ⟨rfl, rfl, rfl, trivial⟩) fun k hk => ?_
  obtain ⟨hk1, hk2⟩ := hk
  refine ITri.seq ?_
  refine ITri.seq ?_
  refine ITri.reg pok ?_; simp -implicitDefEqProofs (disch := first | decide | exact of_eq_true (eq_true rfl) | omega | assumption) only [ ↓vcD, vcE, evs, evP, evB, intsOf, fillC, Value.cells, pt, List.append_nil, List.nil_append, List.cons_append, List.length_cons, List.length_nil, List.filter_nil, List.map_nil, ↓List.getElem?_cons_zero, ↓List.getElem?_cons_succ, List.getElem?_cons_zero, List.getElem?_cons_succ, List.set_cons_zero, List.set_cons_succ, Option.join_some, Option.join_none, Option.map_some, List.all_cons, List.all_nil, Value.oneCell', reduceIte, reduceCtorEq, Nat.reduceEqDiff, Nat.reduceAdd, Nat.reduceMul, Nat.reduceLT, Nat.reduceBEq, Nat.reduceLeDiff, Nat.reduceSub, List.size_toArray] -- r4 law.go:29
  refine ITri.condD (by rfl) (fun h3 => ?_) (fun h3 => ?_) -- %14
  · have ha : k < a.length := by omega
    have hb2 : k < b.length := by omega
    refine ITri.skip ?_; simp only [SeqQ_normal, BlkQ_normal]
    refine ITri.seq ?_
    refine ITri.block ?_ -- 1
    refine ITri.seq ?_
    refine ITri.draw pok ?_; simp -implicitDefEqProofs (disch := first | decide | exact of_eq_true (eq_true rfl) | omega | assumption) only [takeII, cellsEq, cellEq,  ↓vcD, vcE, evs, evP, evB, intsOf, fillC, Value.cells, pt, List.append_nil, List.nil_append, List.cons_append, List.length_cons, List.length_nil, List.filter_nil, List.map_nil, ↓List.getElem?_cons_zero, ↓List.getElem?_cons_succ, List.getElem?_cons_zero, List.getElem?_cons_succ, List.set_cons_zero, List.set_cons_succ, Option.join_some, Option.join_none, Option.map_some, List.all_cons, List.all_nil, Value.oneCell', reduceIte, reduceCtorEq, Nat.reduceEqDiff, Nat.reduceAdd, Nat.reduceMul, Nat.reduceLT, Nat.reduceBEq, Nat.reduceLeDiff, Nat.reduceSub, List.size_toArray] -- r6 law.go:30
    refine ITri.cond (by rfl) (fun h4 => ?_) (fun h4 => ?_) -- %25
    · refine ITri.seq ?_
      refine ITri.reg pok ?_; simp -implicitDefEqProofs (disch := first | decide | exact of_eq_true (eq_true rfl) | omega | assumption) only [ ↓vcD, vcE, evs, evP, evB, intsOf, fillC, Value.cells, pt, List.append_nil, List.nil_append, List.cons_append, List.length_cons, List.length_nil, List.filter_nil, List.map_nil, ↓List.getElem?_cons_zero, ↓List.getElem?_cons_succ, List.getElem?_cons_zero, List.getElem?_cons_succ, List.set_cons_zero, List.set_cons_succ, Option.join_some, Option.join_none, Option.map_some, List.all_cons, List.all_nil, Value.oneCell', reduceIte, reduceCtorEq, Nat.reduceEqDiff, Nat.reduceAdd, Nat.reduceMul, Nat.reduceLT, Nat.reduceBEq, Nat.reduceLeDiff, Nat.reduceSub, List.size_toArray] -- r7 law.go:31
      refine ITri.ret ?_; exact EndR.plain (by simp) (by rfl) (by
        rw [decide_eq_false (fun e => ?_)]
        · rfl
        · subst e
          simp at h4) (by rfl)
    refine ITri.skip ?_; simp only [SeqQ_normal, BlkQ_normal]
    have he : nth a k = nth b k := by
      simp only [Bool.not_eq_false', Bool.and_eq_true, decide_eq_true_eq, Bool.and_true] at h4
      exact Prod.ext h4.1 h4.2
    refine ITri.reg pok ?_; simp -implicitDefEqProofs (disch := first | decide | exact of_eq_true (eq_true rfl) | omega | assumption) only [ ↓vcD, vcE, evs, evP, evB, intsOf, fillC, Value.cells, pt, List.append_nil, List.nil_append, List.cons_append, List.length_cons, List.length_nil, List.filter_nil, List.map_nil, ↓List.getElem?_cons_zero, ↓List.getElem?_cons_succ, List.getElem?_cons_zero, List.getElem?_cons_succ, List.set_cons_zero, List.set_cons_succ, Option.join_some, Option.join_none, Option.map_some, List.all_cons, List.all_nil, Value.oneCell', reduceIte, reduceCtorEq, Nat.reduceEqDiff, Nat.reduceAdd, Nat.reduceMul, Nat.reduceLT, Nat.reduceBEq, Nat.reduceLeDiff, Nat.reduceSub, List.size_toArray] -- r5 law.go:29
    refine LoopQ.next (k + 1) ⟨by omega, fun j hj => ?_⟩ (by omega) (Wk.sub ⟨rfl, rfl, rfl, trivial⟩)
    by_cases hjk : j < k
    · exact hk2 j hjk
    · obtain rfl : j = k := by omega
      exact he
  refine ITri.exit ?_; try simp -implicitDefEqProofs (disch := first | decide | exact of_eq_true (eq_true rfl) | omega | assumption) only [ ↓vcD, vcE, evs, evP, evB, intsOf, fillC, Value.cells, pt, List.append_nil, List.nil_append, List.cons_append, List.length_cons, List.length_nil, List.filter_nil, List.map_nil, ↓List.getElem?_cons_zero, ↓List.getElem?_cons_succ, List.getElem?_cons_zero, List.getElem?_cons_succ, List.set_cons_zero, List.set_cons_succ, Option.join_some, Option.join_none, Option.map_some, List.all_cons, List.all_nil, Value.oneCell', reduceIte, reduceCtorEq, Nat.reduceEqDiff, Nat.reduceAdd, Nat.reduceMul, Nat.reduceLT, Nat.reduceBEq, Nat.reduceLeDiff, Nat.reduceSub, List.size_toArray]
  have he : a = b := by
    apply List.ext_getElem?
    intro j
    by_cases hj : j < n
    · rw [get_nth (show j < a.length by omega), get_nth (show j < b.length by omega), hk2 j (by omega)]
    · rw [List.getElem?_eq_none (by omega), List.getElem?_eq_none (by omega)]
  refine ITri.seq ?_
  refine ITri.reg pok ?_; simp -implicitDefEqProofs (disch := first | decide | exact of_eq_true (eq_true rfl) | omega | assumption) only [ ↓vcD, vcE, evs, evP, evB, intsOf, fillC, Value.cells, pt, List.append_nil, List.nil_append, List.cons_append, List.length_cons, List.length_nil, List.filter_nil, List.map_nil, ↓List.getElem?_cons_zero, ↓List.getElem?_cons_succ, List.getElem?_cons_zero, List.getElem?_cons_succ, List.set_cons_zero, List.set_cons_succ, Option.join_some, Option.join_none, Option.map_some, List.all_cons, List.all_nil, Value.oneCell', reduceIte, reduceCtorEq, Nat.reduceEqDiff, Nat.reduceAdd, Nat.reduceMul, Nat.reduceLT, Nat.reduceBEq, Nat.reduceLeDiff, Nat.reduceSub, List.size_toArray] -- r8 law.go:34
  refine ITri.ret ?_; exact EndR.plain (by simp) (by rfl) (by rw [decide_eq_true he]; rfl) (by rfl)

theorem same_f (n m : Nat) (a b : List Bl) (hn : a.length = n) (hm : b.length = m) (hb : n ≤ 1000000) {h : AH} {s t : Value} (h0 : h.sees 0 = true) (r : Rd h s n (rows eII a)) (r2 : Rd h t m (rows eII b)) :
    Fc Try.prog 18 [s, t] h (.bool (decide (a = b))) h :=
  Fc.lift2 (mk := fun ss => ss ++ []) (mkv := fun _ => .bool (decide (a = b))) (os := []) (fun c d => same_c n c m d a b hn hm hb) (MkL.app rfl) (MkV.const rfl) (rows_no (f := eII) a) (rows_no (f := eII) b) (fun o ho => by cases ho) h0 r r2

theorem refTotal_f (n : Nat) (l : List St) (k1 k2 : Int) (nb : Nat) (bs : List Bl) (hn : l.length = n) (hb : n ≤ 1000) (hg : l.any badSt = false) (hs : k2 ≤ 600) (hnb : bs.length = nb) (hbb : nb ≤ 100000) (hal : ∀ x ∈ bs, alF l k1 k2 x.1 x.2 = true) (hlf : lenF l ≤ 3000) {h : AH} {s t : Value} (h0 : h.sees 0 = true) (r : Rd h s n (rows eII l)) (r2 : Rd h t nb (rows eII bs)) :
    Fc Try.prog 19 [s, t] h (.int .i64 (rsum l bs)) h := by
  refine Fc.lift2 (mk := fun ss => ss ++ []) (mkv := fun _ => .int .i64 (rsum l bs)) (os := []) (fun c d => ?_) (MkL.app rfl) (MkV.const rfl) (rows_no (f := eII) l) (rows_no (f := eII) bs) (fun o ho => by cases ho) h0 r r2
  refine Fc.ofPlain rfl ⟨_, _, Try.func19, rfl⟩ fun w0 φ κ w R ha => ?_
  obtain ⟨A, cap, e1, hs1⟩ := Rel.sl (enc := eII) (xs := l) R (k := 1) (n := n) (cp := c) (Hp_get 1) (by omega) (ha _ (by simp)) hn
  obtain ⟨A2, cap2, e2, hs2⟩ := Rel.sl (enc := eII) (xs := bs) R (k := 2) (n := nb) (cp := d) (Hp_get 2) (by omega) (ha _ (by simp)) hnb
  simp only [List.append_nil, List.map_cons, List.map_nil, e1, e2]
  exact refTotal_any A n cap w.heap.size l k1 k2 A2 nb cap2 w.heap.size bs w hs1 (Nat.le_refl _) hb hg hs hs2 (Nat.le_refl _) hbb hal hlf
end Go.Proofs.Ytlkfcbdbieenhaa
namespace Go.Proofs.Ytlkfcbdbieenhaa
open Go.RowKit Go.Vm
set_option maxRecDepth 100000

def capC (m : Nat) : Nat := if m ≤ 1 then m else openB
def inO (x : List Bl) : AObj := .cells ⟨rows eII x, 2, decide (2 ≤ x.length)⟩
def slV (k : Nat) (x : List Bl) : Value := .slice (some ⟨k, 0, none⟩) x.length (capC x.length)
def slK : List Nat → List (List Bl) → List Value
  | k :: ks, x :: xs => slV k x :: slK ks xs
  | _, _ => []
def ouO (ks : List Nat) (xs : List (List Bl)) : AObj := .cells ⟨slK ks xs, 1, decide (2 ≤ xs.length)⟩
def ouV (k : Nat) (xs : List (List Bl)) : Value := .slice (some ⟨k, 0, none⟩) xs.length (capC xs.length)
/-- What a function that returns such a list makes: its lists, then the outer row. -/
def crO (B : Nat) (xs : List (List Bl)) : List AObj := xs.map inO ++ [ouO (List.range' B xs.length) xs]

theorem slK_len : ∀ {ks : List Nat} {xs : List (List Bl)}, ks.length = xs.length → (slK ks xs).length = xs.length
  | [], [], _ => rfl
  | k :: ks, x :: xs, h => by simp only [slK, List.length_cons, slK_len (show ks.length = xs.length by simpa using h)]
  | [], _ :: _, h => by simp at h
  | _ :: _, [], h => by simp at h
theorem slK_get : ∀ {ks : List Nat} {xs : List (List Bl)} {i k : Nat} {x : List Bl}, ks[i]? = some k → xs[i]? = some x → (slK ks xs)[i]? = some (slV k x)
  | [], _, i, k, x, h, _ => by simp at h
  | _ :: _, [], i, k, x, _, h => by simp at h
  | k :: ks, x :: xs, 0, _, _, h, h2 => by
    simp only [List.getElem?_cons_zero, Option.some.injEq] at h h2
    subst h h2
    rfl
  | k :: ks, x :: xs, i + 1, _, _, h, h2 => by
    simp only [List.getElem?_cons_succ] at h h2
    simpa only [slK, List.getElem?_cons_succ] using slK_get h h2
theorem slK_snoc : ∀ {ks : List Nat} {xs : List (List Bl)} (k : Nat) (x : List Bl), ks.length = xs.length → slK (ks ++ [k]) (xs ++ [x]) = slK ks xs ++ [slV k x]
  | [], [], k, x, _ => rfl
  | a :: ks, b :: xs, k, x, h => by
    simp only [List.cons_append, slK, slK_snoc k x (show ks.length = xs.length by simpa using h)]
  | [], _ :: _, _, _, h => by simp at h
  | _ :: _, [], _, _, h => by simp at h
theorem slK_one : ∀ (ks : List Nat) (xs : List (List Bl)), (slK ks xs).all Value.oneCell' = true
  | [], _ => rfl
  | _ :: _, [] => rfl
  | k :: ks, x :: xs => by simp only [slK, List.all_cons, slK_one ks xs, Bool.and_true]; rfl
theorem slK_mv {σ : Nat → Nat} : ∀ (ks : List Nat) (xs : List (List Bl)), mvL σ (fun _ => .same) (slK ks xs) = slK (ks.map σ) xs
  | [], _ => rfl
  | _ :: _, [] => rfl
  | k :: ks, x :: xs => by simp only [slK, mvL, List.map_cons, slK_mv ks xs]; rfl
theorem slK_okM {ξ : Nat → Xi} {B : Nat} : ∀ (ks : List Nat) (xs : List (List Bl)), (∀ k ∈ ks, k < B ∧ ξ k = .same) → okML ξ B (slK ks xs)
  | [], _, _ => trivial
  | _ :: _, [], _ => trivial
  | k :: ks, x :: xs, h => by
    refine ⟨?_, slK_okM ks xs fun k hk => h k (by simp [hk])⟩
    have := h k (by simp)
    show k < B ∧ okS (ξ k) _ _
    rw [this.2]
    exact ⟨this.1, trivial⟩
theorem slK_mw {ψ : Nat → Nat × Nat × Bool} : ∀ (ks : List Nat) (xs : List (List Bl)), (∀ k ∈ ks, (ψ k).2 = (0, false)) → mwL ψ (slK ks xs) = slK (ks.map fun k => (ψ k).1) xs
  | [], _, _ => rfl
  | _ :: _, [], _ => rfl
  | k :: ks, x :: xs, h => by
    simp only [slK, mwL, List.map_cons, slK_mw ks xs fun k hk => h k (by simp [hk])]
    have := h k (by simp)
    rw [show mw ψ (slV k x) = slV (ψ k).1 x from ?_]
    exact mw_sl (p := ((ψ k).1, 0, false)) (Prod.ext rfl this)

/-- Where the outer row and the lists stand. -/
structure Cr (L0 L : List (Option AObj)) (ko : Nat) (ks : List Nat) (xs : List (List Bl)) : Prop where
  base : ∀ (k : Nat) (o : Option AObj), L0[k]? = some o → L[k]? = some o
  len : ks.length = xs.length
  inn : ∀ (i k : Nat) (x : List Bl), ks[i]? = some k → xs[i]? = some x → L[k]? = some (some (inO x))
  out : L[ko]? = some (some (ouO ks xs))
  nd : (ks ++ [ko]).Nodup
  ge : ∀ k ∈ ks ++ [ko], L0.length ≤ k

section
variable {L0 L : List (Option AObj)} {ko : Nat} {ks : List Nat} {xs : List (List Bl)}
theorem Cr.lt (c : Cr L0 L ko ks xs) : ∀ k ∈ ks ++ [ko], k < L.length := by
  intro k hk
  rcases List.mem_append.1 hk with hk | hk
  · obtain ⟨i, hi, rfl⟩ := List.mem_iff_getElem.1 hk
    have hx : i < xs.length := by rw [← c.len]; exact hi
    exact (List.getElem?_eq_some_iff.1 (c.inn i _ _ (List.getElem?_eq_getElem hi) (List.getElem?_eq_getElem hx))).1
  · rw [List.mem_singleton] at hk
    subst hk
    exact (List.getElem?_eq_some_iff.1 c.out).1
theorem Cr.at (c : Cr L0 L ko ks xs) {i : Nat} (hi : i < xs.length) : ∃ k, ks[i]? = some k ∧ k ∈ ks ∧ L0.length ≤ k ∧ L[k]? = some (some (inO xs[i])) := by
  have hk : i < ks.length := by rw [c.len]; exact hi
  exact ⟨ks[i], List.getElem?_eq_getElem hk, List.getElem_mem hk, c.ge _ (by simp), c.inn i _ _ (List.getElem?_eq_getElem hk) (List.getElem?_eq_getElem hi)⟩
/-- Memory grows; what is known of it stays. -/
theorem Cr.mono (c : Cr L0 L ko ks xs) {L' : List (Option AObj)} (h : ∀ (k : Nat) (o : Option AObj), L[k]? = some o → L'[k]? = some o) : Cr L0 L' ko ks xs :=
  ⟨fun k o hk => h k o (c.base k o hk), c.len, fun i k x h1 h2 => h _ _ (c.inn i k x h1 h2), h _ _ c.out, c.nd, c.ge⟩
theorem grow_app (L T : List (Option AObj)) : ∀ (k : Nat) (o : Option AObj), L[k]? = some o → (L ++ T)[k]? = some o := fun k o h => by
  rw [List.getElem?_append_left (List.getElem?_eq_some_iff.1 h).1]; exact h
/-- One more list. -/
theorem Cr.push (c : Cr L0 L ko ks xs) {L' : List (Option AObj)} {kn kr : Nat} {x : List Bl} (h : ∀ (k : Nat) (o : Option AObj), k ≠ ko → L[k]? = some o → L'[k]? = some o) (hn : L'[kn]? = some (some (inO x))) (h2 : L0.length ≤ kn) (hnn : kn ∉ ks ++ [ko]) (hr : L.length ≤ kr) (hrn : kr ≠ kn) (ho : L'[kr]? = some (some (ouO (ks ++ [kn]) (xs ++ [x])))) : Cr L0 L' kr (ks ++ [kn]) (xs ++ [x]) := by
  have hlt := c.lt
  have hko : ko ∉ ks := by
    have := c.nd
    rw [List.nodup_append] at this
    exact fun hm => this.2.2 ko hm ko (by simp) rfl
  have hks : ∀ k ∈ ks, k ≠ ko := fun k hk e => hko (e ▸ hk)
  have hge := c.ge
  refine ⟨fun k o hk => h k o (by have := hge ko (by simp); have := (List.getElem?_eq_some_iff.1 hk).1; omega) (c.base k o hk), by simp [c.len], fun i k y h3 h4 => ?_, ho, ?_, fun k hk => ?_⟩
  · by_cases hi : i < ks.length
    · rw [List.getElem?_append_left hi] at h3
      rw [List.getElem?_append_left (by rw [← c.len]; exact hi)] at h4
      exact h _ _ (hks k (List.mem_of_getElem? h3)) (c.inn i k y h3 h4)
    · have hii : i = ks.length := by
        have := (List.getElem?_eq_some_iff.1 h3).1
        simp at this
        omega
      subst hii
      rw [List.getElem?_append_right (Nat.le_refl _), Nat.sub_self] at h3
      rw [c.len, List.getElem?_append_right (Nat.le_refl _), Nat.sub_self] at h4
      simp only [List.getElem?_cons_zero, Option.some.injEq] at h3 h4
      subst h3 h4
      exact hn
  · have hnd := c.nd
    rw [List.nodup_append] at hnd ⊢
    refine ⟨List.nodup_append.2 ⟨hnd.1, by simp, fun a ha b hb => ?_⟩, by simp, fun a ha b hb => ?_⟩
    · rw [List.mem_singleton] at hb
      subst hb
      exact fun e => hnn (by rw [← e]; simp [ha])
    · rw [List.mem_singleton] at hb
      subst hb
      rcases List.mem_append.1 ha with ha | ha
      · have := hlt a (by simp [ha])
        omega
      · rw [List.mem_singleton] at ha
        subst ha
        exact fun e => hrn e.symm
  · rcases List.mem_append.1 hk with hk | hk
    · rcases List.mem_append.1 hk with hk | hk
      · exact hge k (by simp [hk])
      · rw [List.mem_singleton] at hk
        subst hk
        exact h2
    · rw [List.mem_singleton] at hk
      have := hge ko (by simp)
      have := hlt ko (by simp)
      omega

theorem crO_len (B : Nat) (xs : List (List Bl)) : (crO B xs).length = xs.length + 1 := by simp [crO]
theorem crO_get (B : Nat) (xs : List (List Bl)) (i : Nat) (h : i < xs.length) : (crO B xs)[i]? = some (inO xs[i]) := by
  unfold crO
  rw [List.getElem?_append_left (by simpa using h), List.getElem?_map, List.getElem?_eq_getElem h]
  rfl
theorem crO_last (B : Nat) (xs : List (List Bl)) : (crO B xs)[xs.length]? = some (ouO (List.range' B xs.length) xs) := by
  unfold crO
  rw [List.getElem?_append_right (by simp)]
  simp
/-- How a function ends that returns such a list. -/
theorem Cr.fin {P : Program} {rs : List ResultVar} {l : Fr} (c : Cr L0 L ko ks xs) (h0 : 2 ≤ L0.length) (hr : resF P l (Hp 2 L) rs = some [ouV ko xs]) : EndR P rs 2 (crO 2 xs) (ouV (2 + xs.length) xs) .ret l [] (Hp 2 L) := by
  have hlen : (ks ++ [ko]).length = xs.length + 1 := by simp [c.len]
  have hσ : ∀ i, (fun k => if k < 2 then k else (ks ++ [ko]).getD (k - 2) 0) (2 + i) = (ks ++ [ko]).getD i 0 := fun i => by
    show (if 2 + i < 2 then _ else _) = _
    rw [if_neg (by omega), Nat.add_sub_cancel_left]
  have hlast : (ks ++ [ko]).getD xs.length 0 = ko := by
    rw [List.getD_eq_getElem?_getD, List.getElem?_append_right (by rw [c.len]; exact Nat.le_refl _), c.len, Nat.sub_self]
    rfl
  refine ⟨by simp, rfl, [ouV ko xs], ks ++ [ko], [], hr, by rw [hlen, crO_len], c.nd, fun k hk => Nat.le_trans h0 (c.ge k hk), (fun p hp => by cases hp), ?_, ?_, fun i o2 h => .inr ⟨(by intro e; cases e), ?_⟩⟩
  · show ouV ko xs = .slice (some ⟨(fun k => if k < 2 then k else (ks ++ [ko]).getD (k - 2) 0) (2 + xs.length), 0, none⟩) _ _
    rw [hσ, hlast]
    rfl
  · exact ⟨by rw [crO_len]; show 2 + xs.length < _; omega, trivial⟩
  · by_cases hi : i < xs.length
    · rw [crO_get 2 xs i hi] at h
      obtain ⟨k, h1, _, _, h2⟩ := c.at hi
      have hk : (ks ++ [ko]).getD i 0 = k := by
        rw [List.getD_eq_getElem?_getD, List.getElem?_append_left (by rw [c.len]; exact hi), h1]
        rfl
      cases h
      refine ⟨inO xs[i], by rw [hk, Hp_get, h2]; rfl, ?_⟩
      exact ⟨(mvL_noAddr _ _ _ (rows_no _)).symm, okML_noAddr _ _ _ (rows_no _), fun e => e, fun e => ⟨e, rfl⟩⟩
    · have hii : i = xs.length := by
        have := (List.getElem?_eq_some_iff.1 h).1
        rw [crO_len] at this
        omega
      subst hii
      rw [crO_last] at h
      cases h
      refine ⟨ouO ks xs, by rw [hlast, Hp_get, c.out]; rfl, ?_⟩
      refine ⟨?_, slK_okM _ _ fun k hk => ⟨?_, rfl⟩, fun e => e, fun e => ⟨e, rfl⟩⟩
      · show slK ks xs = mvL _ (fun _ => .same) _
        rw [slK_mv]
        congr 1
        apply List.ext_getElem?
        intro j
        by_cases hj : j < ks.length
        · have hj2 : j < xs.length := by rw [← c.len]; exact hj
          rw [List.getElem?_map, List.getElem?_range' hj2, Option.map_some, Nat.one_mul]
          show _ = some ((fun k => if k < 2 then k else (ks ++ [ko]).getD (k - 2) 0) (2 + j))
          rw [hσ, List.getD_eq_getElem?_getD, List.getElem?_append_left hj, List.getElem?_eq_getElem hj]
          rfl
        · rw [List.getElem?_eq_none (by omega), List.getElem?_eq_none (by simp; have := c.len; omega)]
      · rw [List.mem_range'] at hk
        obtain ⟨j, hj, rfl⟩ := hk
        rw [crO_len]
        omega
end
/-- Such a contract, wherever the slice that is read stands. -/
theorem Fc.crop {P : Program} {f n : Nat} {cs : List Value} {xs : List (List Bl)} {post : List Value} (hp : noAddrL post = true) (hcs : noAddrL cs = true)
    (F : ∀ c : Nat, Fc P f (.slice (some ⟨1, 0, none⟩) n c :: post) (Hp 2 [none, some (.cells ⟨cs, 0, false⟩)]) (ouV (2 + xs.length) xs) (Hp 2 ([none, some (.cells ⟨cs, 0, false⟩)] ++ (crO 2 xs).map some))) {h : AH} {s : Value} (h0 : h.sees 0 = true) (r : Rd h s n cs) :
    Fc P f (s :: post) h (ouV (h.next + xs.length) xs) (h.news (crO h.next xs)) := by
  obtain ⟨p, c, rfl, h1, h2⟩ := r
  have hψ : ∀ k, 2 ≤ k → psi1 (psL [(0, 0, false), p]) [none, some (AObj.cells ⟨cs, 0, false⟩)].length h.next k = (h.next + (k - 2), 0, false) := fun k hk => if_neg (by show ¬ k < 2; omega)
  have hξ : ∀ k, 2 ≤ k → xiP (psi1 (psL [(0, 0, false), p]) [none, some (AObj.cells ⟨cs, 0, false⟩)].length h.next) k = .same := fun k hk => by
    unfold xiP
    rw [hψ k hk]
    rfl
  refine Fc.frameL (F c) [(0, 0, false), p] ?_ ⟨fr_none h0, fr_rd rfl h1 hcs, trivial⟩ ?_ ?_ (fun o ho => ?_) ?_ ?_ ?_
  · rw [List.all_eq_true]
    intro o ho
    unfold crO at ho
    rcases List.mem_append.1 ho with ho | ho
    · obtain ⟨x, _, rfl⟩ := List.mem_map.1 ho
      rfl
    · rw [List.mem_singleton] at ho
      subst ho
      rfl
  · exact ⟨okM_sl rfl (show 1 < 2 by decide) h1 h2, okML_noAddr _ _ _ hp⟩
  · refine ⟨by rw [crO_len]; show 2 + xs.length < 2 + (xs.length + 1); omega, ?_⟩
    show okS (xiP (psi1 (psL [(0, 0, false), p]) [none, some (AObj.cells ⟨cs, 0, false⟩)].length h.next) (2 + xs.length)) _ _
    rw [hξ (2 + xs.length) (by omega)]
    trivial
  · unfold crO at ho
    rcases List.mem_append.1 ho with ho | ho
    · obtain ⟨x, _, rfl⟩ := List.mem_map.1 ho
      exact okML_noAddr _ _ _ (rows_no _)
    · rw [List.mem_singleton] at ho
      subst ho
      refine slK_okM _ _ fun k hk => ?_
      rw [List.mem_range'] at hk
      obtain ⟨j, hj, rfl⟩ := hk
      exact ⟨by rw [crO_len]; show 2 + 1 * j < 2 + (xs.length + 1); omega, hξ _ (by omega)⟩
  · show mw _ _ :: mwL _ _ = _
    rw [mwL_noAddr _ _ hp, mw_sl rfl]
    rfl
  · rw [show ouV (2 + xs.length) xs = .slice (some ⟨2 + xs.length, 0, none⟩) xs.length (capC xs.length) from rfl, mw_sl (hψ (2 + xs.length) (by omega)), Nat.add_sub_cancel_left]
    rfl
  · congr 1
    unfold crO
    rw [List.map_append, List.map_map]
    congr 1
    · refine List.map_congr_left fun x _ => ?_
      show AObj.cells ⟨mwL _ (rows eII x), _, _⟩ = _
      rw [mwL_noAddr _ _ (rows_no _)]
      rfl
    · show [AObj.cells ⟨mwL _ (slK _ _), _, _⟩] = _
      rw [slK_mw _ _ fun k hk => ?_]
      · unfold ouO
        congr 4
        apply List.ext_getElem?
        intro j
        by_cases hj : j < xs.length
        · rw [List.getElem?_map, List.getElem?_range' hj, List.getElem?_range' hj, Option.map_some, Nat.one_mul]
          rw [hψ (2 + j) (by omega), Nat.add_sub_cancel_left]
        · rw [List.getElem?_eq_none (by simp; omega), List.getElem?_eq_none (by simp; omega)]
      · rw [List.mem_range'] at hk
        obtain ⟨j, hj, rfl⟩ := hk
        rw [hψ (2 + 1 * j) (by omega)]
end Go.Proofs.Ytlkfcbdbieenhaa
