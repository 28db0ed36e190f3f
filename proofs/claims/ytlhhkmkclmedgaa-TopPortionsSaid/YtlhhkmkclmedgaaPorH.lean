/-
  Chapter 8 at the top: what is cut (plain), and slice.Check, used, at, place, by names.
-/
import Derived.Test.YtlhhkmkclmedgaaPorG
set_option linter.unusedSimpArgs false
set_option linter.unusedVariables false
namespace Go.Proofs.Ytlhhkmkclmedgaa
open Go.RowKit Go.Vm
set_option maxRecDepth 100000

/-- A wire and a web. -/
structure Wb where
  (dl dh wl wh le p g st sl sh : Int)
def wireB (c : Wb) : Bool := rngB c.dl c.dh 1 10000000 && rngB c.wl c.wh 0 10000000 && inB c.le 0 10000000
def ckB (c : Wb) : Bool := wireB c && inB c.p 1 10000000 && inB c.g 1 2000 && inB c.st 0 600000000 && rngB c.sl c.sh 0 10000000 && !decide (c.p ≤ c.dh + c.sh)
def ckE (c : Wb) (len : Int) : Int := if ckB c = true then (if inB len 1 600000000 = true then 0 else 3) else 2
structure Vd (c : Wb) (len : Int) : Prop where
  d1 : 1 ≤ c.dl
  d2 : c.dl ≤ c.dh
  d3 : c.dh ≤ 10000000
  w1 : 0 ≤ c.wl
  w2 : c.wl ≤ c.wh
  w3 : c.wh ≤ 10000000
  p1 : 1 ≤ c.p
  p2 : c.p ≤ 10000000
  g1 : 1 ≤ c.g
  g2 : c.g ≤ 2000
  s1 : 0 ≤ c.st
  s2 : c.st ≤ 600000000
  l1 : 0 ≤ c.sl
  l2 : c.sl ≤ c.sh
  l3 : c.sh ≤ 10000000
  r : c.dh + c.sh < c.p
  n1 : 1 ≤ len
  n2 : len ≤ 600000000
theorem ckE_ok {c : Wb} {len : Int} (h : ckE c len = 0) : Vd c len := by
  unfold ckE at h
  split at h
  · rename_i h1
    split at h
    · rename_i h2
      unfold ckB wireB at h1
      simp only [Bool.and_eq_true, Bool.not_eq_true', decide_eq_false_iff_not] at h1
      obtain ⟨⟨⟨⟨⟨⟨⟨a1, a2⟩, a3⟩, a4⟩, a5⟩, a6⟩, a7⟩, a8⟩ := h1
      have b1 := rng_ok a1
      have b2 := rng_ok a2
      have b4 := in_ok a4
      have b5 := in_ok a5
      have b6 := in_ok a6
      have b7 := rng_ok a7
      have b8 := in_ok h2
      constructor <;> omega
    · omega
  · omega
/-- How many grooves are used. -/
def usF (c : Wb) (len : Int) : Nat := if len ≤ c.st then 0 else min c.g.toNat (((len - c.st - 1) / c.p).toNat + 1)
theorem usF_iff {c : Wb} {len : Int} (V : Vd c len) (i : Nat) : i < usF c len ↔ ((i : Int) < c.g ∧ c.st + i * c.p < len) := by
  have := V.p1
  have := V.g1
  unfold usF
  split
  · rename_i h
    have : 0 ≤ (i : Int) * c.p := Int.mul_nonneg (by omega) (by omega)
    constructor
    · intro h; omega
    · intro h; omega
  · rename_i h
    have q0 : 0 ≤ (len - c.st - 1) / c.p := Int.ediv_nonneg (by omega) (by omega)
    have e : (i : Int) ≤ (len - c.st - 1) / c.p ↔ (i : Int) * c.p ≤ len - c.st - 1 := Int.le_ediv_iff_mul_le (by omega)
    constructor
    · intro h
      have := e.1 (by omega)
      omega
    · intro h
      have := e.2 (by omega)
      omega
theorem usF_le {c : Wb} {len : Int} (V : Vd c len) : (usF c len : Int) ≤ c.g := by
  have := V.g1
  unfold usF
  split <;> omega
section
variable (c : Wb) (len d0 : Int) (W S : List Int)
def dF : Nat → Int
  | 0 => d0
  | j + 1 => max 0 (dF j - nth W j)
def roomF (j : Nat) : Int := if j + 1 = usF c len then len - c.st - j * c.p else c.p
def kfF (j : Nat) : Int := min (dF d0 W j + nth S j) (roomF c len j)
def KF : Nat → List Int
  | 0 => []
  | j + 1 => KF j ++ [kfF c len d0 W S j]
def SF : Nat → List Int
  | 0 => []
  | j + 1 => SF j ++ (if j + 1 < usF c len then [c.p - kfF c len d0 W S j] else [])
def restF : Nat → Int
  | 0 => len - min c.st len
  | j + 1 => restF j - kfF c len d0 W S j - (if j + 1 < usF c len then c.p - kfF c len d0 W S j else 0)
end
/-- A true course. -/
structure Co (c : Wb) (len d0 : Int) (W S : List Int) : Prop where
  d1 : c.dl ≤ d0
  d2 : d0 ≤ c.dh
  wl : W.length = usF c len
  sl : S.length = usF c len
  w : ∀ x ∈ W, c.wl ≤ x ∧ x ≤ c.wh
  s : ∀ x ∈ S, c.sl ≤ x ∧ x ≤ c.sh
section
variable {c : Wb} {len d0 : Int} {W S : List Int}
theorem dF_bd (V : Vd c len) (C : Co c len d0 W S) : ∀ j, j ≤ usF c len → 0 ≤ dF d0 W j ∧ dF d0 W j ≤ c.dh
  | 0, _ => by
    have := V.d1
    have := C.d1
    have := C.d2
    show 0 ≤ d0 ∧ d0 ≤ c.dh
    omega
  | j + 1, h => by
    have := dF_bd V C j (by omega)
    have := C.w _ (nth_mem (show j < W.length by rw [C.wl]; omega))
    have := V.w1
    have := V.d1
    have := V.d2
    show 0 ≤ max 0 (dF d0 W j - nth W j) ∧ max 0 (dF d0 W j - nth W j) ≤ c.dh
    omega
theorem room_bd (V : Vd c len) {j : Nat} (h : j < usF c len) : 1 ≤ roomF c len j ∧ roomF c len j ≤ 600000000 ∧ 0 ≤ (j : Int) * c.p ∧ (j : Int) * c.p ≤ 600000000 := by
  have h1 := (usF_iff V j).1 h
  have := V.p1
  have := V.p2
  have := V.s1
  have := V.n2
  have : 0 ≤ (j : Int) * c.p := Int.mul_nonneg (by omega) (by omega)
  unfold roomF
  split <;> omega
theorem kfF_bd (V : Vd c len) (C : Co c len d0 W S) {j : Nat} (h : j < usF c len) : 0 ≤ kfF c len d0 W S j ∧ kfF c len d0 W S j ≤ roomF c len j ∧ kfF c len d0 W S j ≤ c.p ∧ 0 ≤ dF d0 W j + nth S j ∧ dF d0 W j + nth S j ≤ c.p := by
  have h1 := dF_bd V C j (by omega)
  have h2 := C.s _ (nth_mem (show j < S.length by rw [C.sl]; omega))
  have h3 := room_bd V h
  have := V.l1
  have := V.r
  unfold kfF
  omega
theorem KF_len (c : Wb) (len d0 : Int) (W S : List Int) : ∀ j, (KF c len d0 W S j).length = j
  | 0 => rfl
  | j + 1 => by rw [KF, List.length_append, KF_len c len d0 W S j]; rfl
theorem SF_len (c : Wb) (len d0 : Int) (W S : List Int) : ∀ j, j ≤ usF c len → (SF c len d0 W S j).length = min j (usF c len - 1)
  | 0, _ => by simp [SF]
  | j + 1, h => by
    rw [SF, List.length_append, SF_len c len d0 W S j (by omega)]
    split <;> simp <;> omega
theorem restF_lt (V : Vd c len) : ∀ {j : Nat}, j < usF c len → restF c len d0 W S j = len - c.st - j * c.p
  | 0, h => by
    have := (usF_iff V 0).1 h
    rw [restF]
    omega
  | j + 1, h => by
    rw [restF, restF_lt V (show j < usF c len by omega), if_pos h]
    rw [Int.natCast_add, Int.add_mul]
    omega
theorem restF_end (V : Vd c len) (C : Co c len d0 W S) : 0 ≤ restF c len d0 W S (usF c len) ∧ restF c len d0 W S (usF c len) ≤ 600000000 ∧ (usF c len = 0 → restF c len d0 W S (usF c len) = 0) := by
  have := V.n2
  have := V.s1
  cases hm : usF c len with
  | zero =>
    have h1 : ¬ (((0 : Nat) : Int) < c.g ∧ c.st + ((0 : Nat) : Int) * c.p < len) := fun h => by have := (usF_iff V 0).2 h; omega
    have := V.g1
    rw [restF]
    omega
  | succ j =>
    have hj : j < usF c len := by omega
    have h1 := restF_lt (d0 := d0) (W := W) (S := S) V hj
    have h2 := kfF_bd V C hj
    have h3 := room_bd V hj
    rw [restF, if_neg (by omega), h1]
    have : roomF c len j = len - c.st - j * c.p := by unfold roomF; rw [if_pos hm.symm]
    omega
theorem restF_bd (V : Vd c len) (C : Co c len d0 W S) {j : Nat} (h : j ≤ usF c len) : 0 ≤ restF c len d0 W S j ∧ restF c len d0 W S j ≤ 600000000 := by
  rcases Nat.lt_or_ge j (usF c len) with q | q
  · have h1 := (usF_iff V j).1 q
    have := V.n2
    have := V.s1
    have := V.p1
    have : 0 ≤ (j : Int) * c.p := Int.mul_nonneg (by omega) (by omega)
    rw [restF_lt V q]
    omega
  · obtain rfl : j = usF c len := by omega
    have := restF_end V C
    omega
theorem rest_sum : ∀ j, restF c len d0 W S j + (KF c len d0 W S j).sum + (SF c len d0 W S j).sum = len - min c.st len
  | 0 => by simp [restF, KF, SF]
  | j + 1 => by
    have := rest_sum j
    rw [restF, KF, SF, List.sum_append, List.sum_append]
    split <;> simp <;> omega
theorem ivF_sum {K S : List Int} : ∀ i, i ≤ K.length → (ivF K S i).sum = (K.take i).sum + (S.take i).sum
  | 0, _ => by simp [ivF]
  | i + 1, h => by
    have e1 : K.take (i + 1) = K.take i ++ [nth K i] := by rw [List.take_add_one, get_nth (by omega)]; rfl
    have e2 : S.take (i + 1) = S.take i ++ (S.drop i).take 1 := List.take_add
    rw [ivF, List.sum_append, ivF_sum i (by omega), List.sum_cons, e1, e2, List.sum_append, List.sum_append]
    simp only [List.sum_cons, List.sum_nil]
    omega
theorem ivF_mem {K S : List Int} {x : Int} : ∀ i, i ≤ K.length → x ∈ ivF K S i → x ∈ K ∨ x ∈ S
  | 0, _, h => by cases h
  | i + 1, hi, h => by
    rw [ivF, List.mem_append, List.mem_cons] at h
    rcases h with h | h | h
    · exact ivF_mem i (by omega) h
    · exact .inl (h ▸ nth_mem (by omega))
    · exact .inr (List.mem_of_mem_drop (List.mem_of_mem_take h))
theorem KF_mem (V : Vd c len) (C : Co c len d0 W S) {x : Int} : ∀ j, j ≤ usF c len → x ∈ KF c len d0 W S j → 0 ≤ x ∧ x ≤ 600000000
  | 0, _, h => by cases h
  | j + 1, hj, h => by
    rw [KF, List.mem_append] at h
    rcases h with h | h
    · exact KF_mem V C j (by omega) h
    · rw [List.mem_singleton] at h
      have := kfF_bd V C (show j < usF c len by omega)
      have := V.p2
      omega
theorem SF_mem (V : Vd c len) (C : Co c len d0 W S) {x : Int} : ∀ j, j ≤ usF c len → x ∈ SF c len d0 W S j → 0 ≤ x ∧ x ≤ 600000000
  | 0, _, h => by cases h
  | j + 1, hj, h => by
    rw [SF, List.mem_append] at h
    rcases h with h | h
    · exact SF_mem V C j (by omega) h
    · split at h
      · rw [List.mem_singleton] at h
        have := kfF_bd V C (show j < usF c len by omega)
        have := V.p2
        omega
      · cases h
theorem pS_all (xs : List Int) : pS xs xs.length = xs.sum := by unfold pS; rw [List.take_length]
/-- The parts of a true course are parts. -/
theorem parts_ok (V : Vd c len) (C : Co c len d0 W S) : PV (SF c len d0 W S (usF c len)) (KF c len d0 W S (usF c len)) (min c.st len) (restF c len d0 W S (usF c len)) := by
  have h1 := KF_len c len d0 W S (usF c len)
  have h2 := SF_len c len d0 W S (usF c len) (Nat.le_refl _)
  have h3 := usF_le V
  have h4 := V.g2
  have h5 := restF_end V C
  have := V.n1
  have := V.n2
  have := V.s1
  have := V.s2
  refine ⟨by omega, by omega, fun h => h5.2.2 (by omega), fun x hx => ?_, ?_⟩
  · unfold lensF lnF at hx
    rw [List.mem_append, List.mem_cons] at hx
    rcases hx with (rfl | hx) | hx
    · omega
    · rcases ivF_mem _ (Nat.le_refl _) hx with h | h
      · exact KF_mem V C _ (Nat.le_refl _) h
      · exact SF_mem V C _ (Nat.le_refl _) h
    · rw [List.mem_singleton] at hx
      omega
  · have h6 := rest_sum (c := c) (len := len) (d0 := d0) (W := W) (S := S) (usF c len)
    rw [pS_all]
    unfold lensF lnF
    rw [List.sum_append, List.sum_cons, ivF_sum _ (Nat.le_refl _), List.take_length, List.take_of_length_le (by omega)]
    simp
    omega
end
end Go.Proofs.Ytlhhkmkclmedgaa
