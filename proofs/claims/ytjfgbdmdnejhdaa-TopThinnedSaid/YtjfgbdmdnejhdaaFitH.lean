/-
  Chapters 8 to 10 at the top: what is cut (plain).
-/
import Derived.Test.YtjfgbdmdnejhdaaFitA
set_option linter.unusedSimpArgs false
set_option linter.unusedVariables false
namespace Go.Proofs.Ytjfgbdmdnejhdaa
open Go.RowKit Go.Vm
set_option maxRecDepth 100000

/-- A wire and a web. -/
structure Wb where
  (dl dh wl wh le p g st sl sh : Int)
def wireB (c : Wb) : Bool := rngB c.dl c.dh 1 10000000 && rngB c.wl c.wh 0 10000000 && inB c.le 0 10000000
def ckB (c : Wb) : Bool := wireB c && inB c.p 1 10000000 && inB c.g 1 2000 && inB c.st 0 600000000 && rngB c.sl c.sh 0 10000000 && !decide (c.p ≤ c.dh + c.sh)
def ckE (c : Wb) (len : Int) : Int := if ckB c = true then (if inB len 1 600000000 = true then 0 else 3) else 2
structure Vd (c : Wb) (len : Int) : Prop where
  d1 : 1 ≤ c.dl
  d2 : c.dl ≤ c.dh
  d3 : c.dh ≤ 10000000
  w1 : 0 ≤ c.wl
  w2 : c.wl ≤ c.wh
  w3 : c.wh ≤ 10000000
  p1 : 1 ≤ c.p
  p2 : c.p ≤ 10000000
  g1 : 1 ≤ c.g
  g2 : c.g ≤ 2000
  s1 : 0 ≤ c.st
  s2 : c.st ≤ 600000000
  l1 : 0 ≤ c.sl
  l2 : c.sl ≤ c.sh
  l3 : c.sh ≤ 10000000
  r : c.dh + c.sh < c.p
  n1 : 1 ≤ len
  n2 : len ≤ 600000000
/-- How many grooves are used. -/
def usF (c : Wb) (len : Int) : Nat := if len ≤ c.st then 0 else min c.g.toNat (((len - c.st - 1) / c.p).toNat + 1)
theorem usF_iff {c : Wb} {len : Int} (V : Vd c len) (i : Nat) : i < usF c len ↔ ((i : Int) < c.g ∧ c.st + i * c.p < len) := by
  have := V.p1
  have := V.g1
  unfold usF
  split
  · rename_i h
    have : 0 ≤ (i : Int) * c.p := Int.mul_nonneg (by omega) (by omega)
    constructor
    · intro h; omega
    · intro h; omega
  · rename_i h
    have q0 : 0 ≤ (len - c.st - 1) / c.p := Int.ediv_nonneg (by omega) (by omega)
    have e : (i : Int) ≤ (len - c.st - 1) / c.p ↔ (i : Int) * c.p ≤ len - c.st - 1 := Int.le_ediv_iff_mul_le (by omega)
    constructor
    · intro h
      have := e.1 (by omega)
      omega
    · intro h
      have := e.2 (by omega)
      omega
theorem usF_le {c : Wb} {len : Int} (V : Vd c len) : (usF c len : Int) ≤ c.g := by
  have := V.g1
  unfold usF
  split <;> omega
section
variable (c : Wb) (len d0 : Int) (W S : List Int)
def dF : Nat → Int
  | 0 => d0
  | j + 1 => max 0 (dF j - nth W j)
def roomF (j : Nat) : Int := if j + 1 = usF c len then len - c.st - j * c.p else c.p
def kfF (j : Nat) : Int := min (dF d0 W j + nth S j) (roomF c len j)
def KF : Nat → List Int
  | 0 => []
  | j + 1 => KF j ++ [kfF c len d0 W S j]
def SF : Nat → List Int
  | 0 => []
  | j + 1 => SF j ++ (if j + 1 < usF c len then [c.p - kfF c len d0 W S j] else [])
def restF : Nat → Int
  | 0 => len - min c.st len
  | j + 1 => restF j - kfF c len d0 W S j - (if j + 1 < usF c len then c.p - kfF c len d0 W S j else 0)
end
/-- A true course. -/
structure Co (c : Wb) (len d0 : Int) (W S : List Int) : Prop where
  d1 : c.dl ≤ d0
  d2 : d0 ≤ c.dh
  wl : W.length = usF c len
  sl : S.length = usF c len
  w : ∀ x ∈ W, c.wl ≤ x ∧ x ≤ c.wh
  s : ∀ x ∈ S, c.sl ≤ x ∧ x ≤ c.sh
section
variable {c : Wb} {len d0 : Int} {W S : List Int}
theorem dF_bd (V : Vd c len) (C : Co c len d0 W S) : ∀ j, j ≤ usF c len → 0 ≤ dF d0 W j ∧ dF d0 W j ≤ c.dh
  | 0, _ => by
    have := V.d1
    have := C.d1
    have := C.d2
    show 0 ≤ d0 ∧ d0 ≤ c.dh
    omega
  | j + 1, h => by
    have := dF_bd V C j (by omega)
    have := C.w _ (nth_mem (show j < W.length by rw [C.wl]; omega))
    have := V.w1
    have := V.d1
    have := V.d2
    show 0 ≤ max 0 (dF d0 W j - nth W j) ∧ max 0 (dF d0 W j - nth W j) ≤ c.dh
    omega
theorem room_bd (V : Vd c len) {j : Nat} (h : j < usF c len) : 1 ≤ roomF c len j ∧ roomF c len j ≤ 600000000 ∧ 0 ≤ (j : Int) * c.p ∧ (j : Int) * c.p ≤ 600000000 := by
  have h1 := (usF_iff V j).1 h
  have := V.p1
  have := V.p2
  have := V.s1
  have := V.n2
  have : 0 ≤ (j : Int) * c.p := Int.mul_nonneg (by omega) (by omega)
  unfold roomF
  split <;> omega
theorem kfF_bd (V : Vd c len) (C : Co c len d0 W S) {j : Nat} (h : j < usF c len) : 0 ≤ kfF c len d0 W S j ∧ kfF c len d0 W S j ≤ roomF c len j ∧ kfF c len d0 W S j ≤ c.p ∧ 0 ≤ dF d0 W j + nth S j ∧ dF d0 W j + nth S j ≤ c.p := by
  have h1 := dF_bd V C j (by omega)
  have h2 := C.s _ (nth_mem (show j < S.length by rw [C.sl]; omega))
  have h3 := room_bd V h
  have := V.l1
  have := V.r
  unfold kfF
  omega
theorem KF_len (c : Wb) (len d0 : Int) (W S : List Int) : ∀ j, (KF c len d0 W S j).length = j
  | 0 => rfl
  | j + 1 => by rw [KF, List.length_append, KF_len c len d0 W S j]; rfl
theorem SF_len (c : Wb) (len d0 : Int) (W S : List Int) : ∀ j, j ≤ usF c len → (SF c len d0 W S j).length = min j (usF c len - 1)
  | 0, _ => by simp [SF]
  | j + 1, h => by
    rw [SF, List.length_append, SF_len c len d0 W S j (by omega)]
    split <;> simp <;> omega
theorem restF_lt (V : Vd c len) : ∀ {j : Nat}, j < usF c len → restF c len d0 W S j = len - c.st - j * c.p
  | 0, h => by
    have := (usF_iff V 0).1 h
    rw [restF]
    omega
  | j + 1, h => by
    rw [restF, restF_lt V (show j < usF c len by omega), if_pos h]
    rw [Int.natCast_add, Int.add_mul]
    omega
theorem restF_end (V : Vd c len) (C : Co c len d0 W S) : 0 ≤ restF c len d0 W S (usF c len) ∧ restF c len d0 W S (usF c len) ≤ 600000000 ∧ (usF c len = 0 → restF c len d0 W S (usF c len) = 0) := by
  have := V.n2
  have := V.s1
  cases hm : usF c len with
  | zero =>
    have h1 : ¬ (((0 : Nat) : Int) < c.g ∧ c.st + ((0 : Nat) : Int) * c.p < len) := fun h => by have := (usF_iff V 0).2 h; omega
    have := V.g1
    rw [restF]
    omega
  | succ j =>
    have hj : j < usF c len := by omega
    have h1 := restF_lt (d0 := d0) (W := W) (S := S) V hj
    have h2 := kfF_bd V C hj
    have h3 := room_bd V hj
    rw [restF, if_neg (by omega), h1]
    have : roomF c len j = len - c.st - j * c.p := by unfold roomF; rw [if_pos hm.symm]
    omega
theorem restF_bd (V : Vd c len) (C : Co c len d0 W S) {j : Nat} (h : j ≤ usF c len) : 0 ≤ restF c len d0 W S j ∧ restF c len d0 W S j ≤ 600000000 := by
  rcases Nat.lt_or_ge j (usF c len) with q | q
  · have h1 := (usF_iff V j).1 q
    have := V.n2
    have := V.s1
    have := V.p1
    have : 0 ≤ (j : Int) * c.p := Int.mul_nonneg (by omega) (by omega)
    rw [restF_lt V q]
    omega
  · obtain rfl : j = usF c len := by omega
    have := restF_end V C
    omega
end
end Go.Proofs.Ytjfgbdmdnejhdaa
