/-
  Chapter 9 at the top: finish.Remove, by names.
-/
import Derived.Test.YtjfgbdmdnejhdaaThD
import Derived.Test.YtjfgbdmdnejhdaaFitS
set_option linter.unusedSimpArgs false
set_option linter.unusedVariables false
namespace Go.Proofs.Ytjfgbdmdnejhdaa
open Go.RowKit Go.Vm
set_option maxRecDepth 100000
/-- The amounts of steps. -/
abbrev am (rs : List Rm) : List (Int × Int) := rs.map fun r => (r.lo, r.hi)
theorem nth_am {rs : List Rm} {i : Nat} (h : i < rs.length) : nth (am rs) i = ((nth rs i).lo, (nth rs i).hi) := by
  unfold nth
  rw [List.getD_eq_getElem?_getD, List.getD_eq_getElem?_getD, List.getElem?_map, List.getElem?_eq_getElem h]
  rfl
theorem okRm {rs : List Rm} (h : rs.any badS = false) {i : Nat} (hi : i < rs.length) : (1 ≤ (nth rs i).k ∧ (nth rs i).k ≤ 4) ∧ 0 ≤ (nth rs i).lo ∧ (nth rs i).lo ≤ (nth rs i).hi ∧ (nth rs i).hi ≤ 10000000 := by
  have := List.any_eq_false.1 h _ (nth_mem hi)
  simp only [badS, outR, Bool.or_eq_true, decide_eq_true_eq, not_or] at this
  omega
theorem sums_bd {rs : List Rm} (h : rs.any badS = false) : ∀ k, k ≤ rs.length → 0 ≤ pL (am rs) k ∧ pL (am rs) k ≤ pH (am rs) k ∧ pH (am rs) k ≤ 10000000 * k
  | 0, _ => ⟨Int.le_refl _, Int.le_refl _, by show (0 : Int) ≤ 10000000 * 0; decide⟩
  | k + 1, hk => by
    have ih := sums_bd h k (by omega)
    have e := nth_am (rs := rs) (i := k) (by omega)
    have b := okRm h (show k < rs.length by omega)
    show 0 ≤ pL (am rs) k + (nth (am rs) k).1 ∧ pL (am rs) k + (nth (am rs) k).1 ≤ pH (am rs) k + (nth (am rs) k).2 ∧ pH (am rs) k + (nth (am rs) k).2 ≤ 10000000 * ((k + 1 : Nat) : Int)
    rw [e]
    simp only
    omega
theorem pH_mono {rs : List Rm} (h : rs.any badS = false) : ∀ k, k ≤ rs.length → ∀ j, j ≤ k → pH (am rs) j ≤ pH (am rs) k
  | 0, _, j, hj => by
    obtain rfl : j = 0 := by omega
    exact Int.le_refl _
  | k + 1, hk, j, hj => by
    have e := nth_am (rs := rs) (i := k) (by omega)
    have b := okRm h (show k < rs.length by omega)
    have s : pH (am rs) (k + 1) = pH (am rs) k + (nth (am rs) k).2 := rfl
    rw [e] at s
    simp only at s
    by_cases hjk : j = k + 1
    · subst hjk; exact Int.le_refl _
    · have := pH_mono h k (by omega) j (by omega)
      omega
abbrev RM (rs : List Rm) : List (Option AObj) := [none, some (.cells ⟨zr, 0, false⟩), some (.cells ⟨rows eR rs, 0, false⟩)]
abbrev s2 (n c : Nat) : Value := .slice (some ⟨2, 0, none⟩) n c
abbrev badV (e : Int) : Value := .tuple #[.agg #[I6 0, I6 0, I6 0, I6 0, .slice none 0 0], .int .i64 e]
theorem wr5 (z0 z1 z2 z3 z4 a0 a1 a2 a3 a4 : Value) : writeAt [z0, z1, z2, z3, z4] 0 [a0, a1, a2, a3, a4] = [a0, a1, a2, a3, a4] := rfl
/- boule/finish.Remove · slots 124 · names 0:s 1:steps 2:s 3:steps 6:all 7:spread 8:_ 9:r 10:i · results [4, 5] -/
def ir8_r0 : IC := .reg [⟨some 2, none, false, .box (.t 0)⟩,
  ⟨some 4, none, false, .alloc [(.int .i64 0), (.int .i64 0), (.int .i64 0), (.int .i64 0), (.slice none 0 0)]⟩,
  ⟨some 5, none, false, .mv (.k (.int .i64 0))⟩] (some [1, 2, 4])
def ir8_r1 : IC := .reg [⟨some 12, none, false, .lda 5 (.t 2)⟩,
  ⟨some 13, none, false, .call (.f 7) [(.t 12)]⟩,
  ⟨some 14, none, false, .cmp .neq (.t 13) (.k (.int .i64 0))⟩,
  ⟨some 11, none, false, .mv (.t 14)⟩] (some [1, 2, 4, 11])
def ir8_r2 : IC := .reg [⟨some 15, none, false, .bld [(.int .i64 0), (.int .i64 0), (.int .i64 0), (.int .i64 0), (.slice none 0 0)] []⟩,
  ⟨none, none, false, .st 5 (.t 4) (.t 15)⟩,
  ⟨some 5, none, false, .mv (.k (.int .i64 2))⟩] (some [4, 5])
def ir8_1 : IC := .seq ir8_r2 .ret
def ir8_r3 : IC := .reg [⟨some 17, none, false, .mv (.t 1)⟩,
  ⟨some 18, none, false, .len (.t 17)⟩,
  ⟨some 19, none, false, .cmp .gtr (.t 18) (.k (.int .i64 30))⟩,
  ⟨some 16, none, false, .mv (.t 19)⟩] (some [1, 2, 4, 16])
def ir8_r4 : IC := .reg [⟨some 20, none, false, .bld [(.int .i64 0), (.int .i64 0), (.int .i64 0), (.int .i64 0), (.slice none 0 0)] []⟩,
  ⟨none, none, false, .st 5 (.t 4) (.t 20)⟩,
  ⟨some 5, none, false, .mv (.k (.int .i64 5))⟩] (some [4, 5])
def ir8_2 : IC := .seq ir8_r4 .ret
def ir8_r5 : IC := .reg [⟨some 22, none, false, .mv (.t 1)⟩,
  ⟨some 23, none, false, .call (.f 25) [(.t 22), (.f 26)]⟩,
  ⟨some 21, none, false, .mv (.t 23)⟩] (some [1, 2, 4, 21])
def ir8_r6 : IC := .reg [⟨some 24, none, false, .bld [(.int .i64 0), (.int .i64 0), (.int .i64 0), (.int .i64 0), (.slice none 0 0)] []⟩,
  ⟨none, none, false, .st 5 (.t 4) (.t 24)⟩,
  ⟨some 5, none, false, .mv (.k (.int .i64 2))⟩] (some [4, 5])
def ir8_3 : IC := .seq ir8_r6 .ret
def ir8_r7 : IC := .reg [⟨some 26, none, false, .mv (.t 1)⟩,
  ⟨some 27, none, false, .call (.f 27) [(.t 26), (.f 28)]⟩,
  ⟨some 28, none, false, .not (.t 27)⟩,
  ⟨some 25, none, false, .mv (.t 28)⟩] (some [1, 2, 4, 25])
def ir8_r8 : IC := .reg [⟨some 29, none, false, .bld [(.int .i64 0), (.int .i64 0), (.int .i64 0), (.int .i64 0), (.slice none 0 0)] []⟩,
  ⟨none, none, false, .st 5 (.t 4) (.t 29)⟩,
  ⟨some 5, none, false, .mv (.k (.int .i64 9))⟩] (some [4, 5])
def ir8_4 : IC := .seq ir8_r8 .ret
def ir8_5 : IC := .cond (.t 25) ir8_4 .skip
def ir8_6 : IC := .seq ir8_r7 ir8_5
def ir8_7 : IC := .cond (.t 21) ir8_3 ir8_6
def ir8_8 : IC := .seq ir8_r5 ir8_7
def ir8_9 : IC := .cond (.t 16) ir8_2 ir8_8
def ir8_10 : IC := .seq ir8_r3 ir8_9
def ir8_11 : IC := .cond (.t 11) ir8_1 ir8_10
def ir8_12 : IC := .seq ir8_r1 ir8_11
def ir8_13 : IC := .block 0 ir8_12
def ir8_r9 : IC := .reg [⟨some 30, none, false, .lda 5 (.t 2)⟩,
  ⟨some 31, none, false, .call (.f 29) [(.t 30)]⟩,
  ⟨some 6, none, false, .alloc [(.int .i64 0), (.int .i64 0)]⟩,
  ⟨none, none, false, .st 2 (.t 6) (.t 31)⟩,
  ⟨some 7, none, false, .mv (.k (.int .i64 0))⟩] (some [1, 2, 4, 6, 7])
def ir8_r10 : IC := .reg [⟨some 32, none, false, .mv (.t 1)⟩,
  ⟨some 33, none, false, .len (.t 32)⟩,
  ⟨some 34, none, false, .mv (.k (.int .i64 0))⟩] (some [2, 4, 6, 7, 32, 33, 34])
def ir8_r11 : IC := .reg [⟨some 35, none, false, .cmp .lss (.t 34) (.t 33)⟩] (some [2, 4, 6, 7, 32, 33, 34, 35])
def ir8_14 : IC := .cond (.t 35) .skip (.exit 1)
def ir8_r12 : IC := .reg [⟨some 36, none, false, .iad 4 (.t 32) (.t 34)⟩,
  ⟨some 37, none, false, .lda 4 (.t 36)⟩,
  ⟨some 9, none, false, .alloc [(.int .i64 0), (.int .i64 0), (.int .i64 0), (.int .i64 0)]⟩,
  ⟨none, none, false, .st 4 (.t 9) (.t 37)⟩] (some [2, 4, 6, 7, 9, 32, 33, 34])
def ir8_r13 : IC := .reg [⟨some 38, none, false, .fad 2 (.t 2)⟩,
  ⟨some 39, none, false, .fad 0 (.t 38)⟩,
  ⟨some 40, none, false, .ldc (.t 39)⟩,
  ⟨some 41, none, false, .fad 1 (.t 9)⟩,
  ⟨some 42, none, false, .fad 1 (.t 41)⟩,
  ⟨some 43, none, false, .ldc (.t 42)⟩,
  ⟨some 44, none, false, .ar .sub (.t 40) (.t 43)⟩,
  ⟨some 45, none, false, .fad 2 (.t 2)⟩,
  ⟨some 46, none, false, .fad 0 (.t 45)⟩,
  ⟨none, none, false, .st 1 (.t 46) (.t 44)⟩] (some [2, 4, 6, 7, 9, 32, 33, 34])
def ir8_r14 : IC := .reg [⟨some 47, none, false, .fad 2 (.t 2)⟩,
  ⟨some 48, none, false, .fad 1 (.t 47)⟩,
  ⟨some 49, none, false, .ldc (.t 48)⟩,
  ⟨some 50, none, false, .fad 1 (.t 9)⟩,
  ⟨some 51, none, false, .fad 0 (.t 50)⟩,
  ⟨some 52, none, false, .ldc (.t 51)⟩,
  ⟨some 53, none, false, .ar .sub (.t 49) (.t 52)⟩,
  ⟨some 54, none, false, .fad 2 (.t 2)⟩,
  ⟨some 55, none, false, .fad 1 (.t 54)⟩,
  ⟨none, none, false, .st 1 (.t 55) (.t 53)⟩] (some [2, 4, 6, 7, 9, 32, 33, 34])
def ir8_r15 : IC := .reg [⟨some 56, none, false, .mv (.t 7)⟩,
  ⟨some 57, none, false, .fad 3 (.t 9)⟩,
  ⟨some 58, none, false, .ldc (.t 57)⟩,
  ⟨some 59, none, false, .ar .add (.t 56) (.t 58)⟩,
  ⟨some 7, none, false, .mv (.t 59)⟩] (some [2, 4, 6, 7, 32, 33, 34])
def ir8_r16 : IC := .reg [⟨some 61, none, false, .fad 2 (.t 2)⟩,
  ⟨some 62, none, false, .fad 0 (.t 61)⟩,
  ⟨some 63, none, false, .ldc (.t 62)⟩,
  ⟨some 64, none, false, .cmp .lss (.t 63) (.k (.int .i64 0))⟩,
  ⟨some 65, none, false, .mv (.t 64)⟩,
  ⟨some 66, some (65, false), false, .fad 2 (.t 2)⟩,
  ⟨some 67, some (65, false), false, .fad 0 (.t 66)⟩,
  ⟨some 68, some (65, false), false, .ldc (.t 67)⟩,
  ⟨some 69, some (65, false), false, .fad 0 (.t 6)⟩,
  ⟨some 70, some (65, false), false, .ldc (.t 69)⟩,
  ⟨some 71, some (65, false), false, .ar .add (.t 68) (.t 70)⟩,
  ⟨some 72, some (65, false), false, .mv (.t 7)⟩,
  ⟨some 73, some (65, false), false, .ar .sub (.t 71) (.t 72)⟩,
  ⟨some 74, some (65, false), false, .cmp .lss (.t 73) (.k (.int .i64 0))⟩,
  ⟨some 75, none, false, .pick (.t 65) (.k (.bool true)) (.t 74)⟩,
  ⟨some 60, none, false, .mv (.t 75)⟩] (some [2, 4, 6, 7, 32, 33, 34, 60])
def ir8_r17 : IC := .reg [⟨some 76, none, false, .bld [(.int .i64 0), (.int .i64 0), (.int .i64 0), (.int .i64 0), (.slice none 0 0)] []⟩,
  ⟨none, none, false, .st 5 (.t 4) (.t 76)⟩,
  ⟨some 5, none, false, .mv (.k (.int .i64 91))⟩] (some [4, 5])
def ir8_15 : IC := .seq ir8_r17 .ret
def ir8_r18 : IC := .reg [⟨some 78, none, false, .fad 0 (.t 6)⟩,
  ⟨some 79, none, false, .ldc (.t 78)⟩,
  ⟨some 80, none, false, .mv (.t 7)⟩,
  ⟨some 81, none, false, .ar .sub (.t 79) (.t 80)⟩,
  ⟨some 82, none, false, .cmp .lss (.t 81) (.k (.int .i64 (-1000000)))⟩,
  ⟨some 83, none, false, .mv (.t 82)⟩,
  ⟨some 84, some (83, false), false, .fad 1 (.t 6)⟩,
  ⟨some 85, some (83, false), false, .ldc (.t 84)⟩,
  ⟨some 86, some (83, false), false, .mv (.t 7)⟩,
  ⟨some 87, some (83, false), false, .ar .add (.t 85) (.t 86)⟩,
  ⟨some 88, some (83, false), false, .cmp .gtr (.t 87) (.k (.int .i64 1000000))⟩,
  ⟨some 89, none, false, .pick (.t 83) (.k (.bool true)) (.t 88)⟩,
  ⟨some 77, none, false, .mv (.t 89)⟩] (some [2, 4, 6, 7, 32, 33, 34, 77])
def ir8_r19 : IC := .reg [⟨some 90, none, false, .bld [(.int .i64 0), (.int .i64 0), (.int .i64 0), (.int .i64 0), (.slice none 0 0)] []⟩,
  ⟨none, none, false, .st 5 (.t 4) (.t 90)⟩,
  ⟨some 5, none, false, .mv (.k (.int .i64 10))⟩] (some [4, 5])
def ir8_16 : IC := .seq ir8_r19 .ret
def ir8_17 : IC := .cond (.t 77) ir8_16 .skip
def ir8_18 : IC := .seq ir8_r18 ir8_17
def ir8_19 : IC := .cond (.t 60) ir8_15 ir8_18
def ir8_20 : IC := .seq ir8_r16 ir8_19
def ir8_21 : IC := .block 3 ir8_20
def ir8_22 : IC := .seq ir8_r15 ir8_21
def ir8_23 : IC := .seq ir8_r14 ir8_22
def ir8_24 : IC := .seq ir8_r13 ir8_23
def ir8_25 : IC := .seq ir8_r12 ir8_24
def ir8_26 : IC := .block 2 ir8_25
def ir8_r20 : IC := .reg [⟨some 91, none, false, .ar .add (.t 34) (.k (.int .i64 1))⟩,
  ⟨some 34, none, false, .mv (.t 91)⟩] (some [2, 4, 6, 7, 32, 33, 34])
def ir8_27 : IC := .seq ir8_26 ir8_r20
def ir8_28 : IC := .seq ir8_14 ir8_27
def ir8_29 : IC := .seq ir8_r11 ir8_28
def ir8_30 : IC := .loop ir8_29
def ir8_31 : IC := .block 1 ir8_30
def ir8_32 : IC := .seq ir8_r10 ir8_31
def ir8_r21 : IC := .reg [⟨some 92, none, false, .fad 4 (.t 2)⟩,
  ⟨some 93, none, false, .ldc (.t 92)⟩,
  ⟨some 94, none, false, .call (.f 30) [(.t 93)]⟩,
  ⟨some 95, none, false, .fad 4 (.t 2)⟩,
  ⟨none, none, false, .st 1 (.t 95) (.t 94)⟩] (some [2, 4, 7])
def ir8_r22 : IC := .reg [⟨some 96, none, false, .fad 4 (.t 2)⟩,
  ⟨some 97, none, false, .ldc (.t 96)⟩,
  ⟨some 98, none, false, .len (.t 97)⟩,
  ⟨some 99, none, false, .mv (.k (.int .i64 0))⟩] (some [2, 4, 7, 98, 99])
def ir8_r23 : IC := .reg [⟨some 100, none, false, .cmp .lss (.t 99) (.t 98)⟩] (some [2, 4, 7, 98, 99, 100])
def ir8_33 : IC := .cond (.t 100) .skip (.exit 4)
def ir8_r24 : IC := .reg [⟨some 101, none, false, .mv (.t 99)⟩,
  ⟨some 10, none, false, .mv (.t 101)⟩] (some [2, 4, 7, 10, 98, 99])
def ir8_r25 : IC := .reg [⟨some 102, none, false, .fad 4 (.t 2)⟩,
  ⟨some 103, none, false, .ldc (.t 102)⟩,
  ⟨some 104, none, false, .mv (.t 10)⟩,
  ⟨some 105, none, false, .iad 2 (.t 103) (.t 104)⟩,
  ⟨some 106, none, false, .fad 0 (.t 105)⟩,
  ⟨some 107, none, false, .ldc (.t 106)⟩,
  ⟨some 108, none, false, .mv (.t 7)⟩,
  ⟨some 109, none, false, .ar .sub (.t 107) (.t 108)⟩,
  ⟨some 110, none, false, .iad 2 (.t 103) (.t 104)⟩,
  ⟨some 111, none, false, .fad 0 (.t 110)⟩,
  ⟨none, none, false, .st 1 (.t 111) (.t 109)⟩] (some [2, 4, 7, 10, 98, 99])
def ir8_r26 : IC := .reg [⟨some 112, none, false, .fad 4 (.t 2)⟩,
  ⟨some 113, none, false, .ldc (.t 112)⟩,
  ⟨some 114, none, false, .mv (.t 10)⟩,
  ⟨some 115, none, false, .iad 2 (.t 113) (.t 114)⟩,
  ⟨some 116, none, false, .fad 1 (.t 115)⟩,
  ⟨some 117, none, false, .ldc (.t 116)⟩,
  ⟨some 118, none, false, .mv (.t 7)⟩,
  ⟨some 119, none, false, .ar .add (.t 117) (.t 118)⟩,
  ⟨some 120, none, false, .iad 2 (.t 113) (.t 114)⟩,
  ⟨some 121, none, false, .fad 1 (.t 120)⟩,
  ⟨none, none, false, .st 1 (.t 121) (.t 119)⟩] (some [2, 4, 7, 98, 99])
def ir8_34 : IC := .seq ir8_r25 ir8_r26
def ir8_35 : IC := .seq ir8_r24 ir8_34
def ir8_36 : IC := .block 5 ir8_35
def ir8_r27 : IC := .reg [⟨some 122, none, false, .ar .add (.t 99) (.k (.int .i64 1))⟩,
  ⟨some 99, none, false, .mv (.t 122)⟩] (some [2, 4, 7, 98, 99])
def ir8_37 : IC := .seq ir8_36 ir8_r27
def ir8_38 : IC := .seq ir8_33 ir8_37
def ir8_39 : IC := .seq ir8_r23 ir8_38
def ir8_40 : IC := .loop ir8_39
def ir8_41 : IC := .block 4 ir8_40
def ir8_42 : IC := .seq ir8_r22 ir8_41
def ir8_r28 : IC := .reg [⟨some 123, none, false, .lda 5 (.t 2)⟩,
  ⟨none, none, false, .st 5 (.t 4) (.t 123)⟩,
  ⟨some 5, none, false, .mv (.k (.int .i64 0))⟩] (some [4, 5])
def ir8_43 : IC := .seq ir8_r28 .ret
def ir8_44 : IC := .seq ir8_42 ir8_43
def ir8_45 : IC := .seq ir8_r21 ir8_44
def ir8_46 : IC := .seq ir8_32 ir8_45
def ir8_47 : IC := .seq ir8_r9 ir8_46
def ir8_48 : IC := .seq ir8_13 ir8_47
def ir8_49 : IC := .seq ir8_r0 ir8_48
def ir8 : IC := ir8_49
theorem fn8 : FnIs Try.prog 8 ir8 124 [.cell 4 47, .tmp 5] := ⟨Try.f8, Try.f8.body.getD .skip, Try.func8, by kernel_rfl, by kernel_rfl, by kernel_rfl, by kernel_rfl⟩
section
variable {lo hi : Int} {rs : List Rm} {n c : Nat}
theorem removeA_c (h1 : 0 ≤ lo) (h2 : lo ≤ hi) (h3 : hi ≤ 10000000) (hn : rs.length = n) (hb : n ≤ 10) (hx : rs.any badS = true) : Fc Try.prog 8 [shV lo hi (s1 4 4), s2 n c] (Hp 3 (RM rs)) (badV 2) (Hp 3 (RM rs)) := by
  refine Fc.intro0 fn8 (by simp) rfl rfl ?_; simp only [argF]
  refine ITri.seq ?_
  refine ITri.reg pok ?_; simp -implicitDefEqProofs (disch := first | decide | exact of_eq_true (eq_true rfl) | omega | assumption) only [ ↓vcD, vcE, ↓vcG, vcF, evs, evP, evB, intsOf, fillC, Value.cells, pt, Value.oneCell', reduceIte, reduceCtorEq, Nat.reduceEqDiff, Nat.reduceAdd, Nat.reduceMul, Nat.reduceLT, Nat.reduceBEq, Nat.reduceLeDiff, Nat.reduceSub] -- r0
  refine ITri.seq ?_
  refine ITri.block ?_ -- 0
  refine ITri.seq ?_
  refine ITri.reg pok ?_; simp -implicitDefEqProofs (disch := first | decide | exact of_eq_true (eq_true rfl) | omega | assumption) only [ ↓vcD, vcE, ↓vcG, vcF, evs, evP, evB, intsOf, fillC, Value.cells, pt, Value.oneCell', reduceIte, reduceCtorEq, Nat.reduceEqDiff, Nat.reduceAdd, Nat.reduceMul, Nat.reduceLT, Nat.reduceBEq, Nat.reduceLeDiff, Nat.reduceSub] -- r1
  refine ⟨_, _, sheet_f h1 h2 h3 (sees0 rfl (of_decide_eq_true rfl)) (get_hq rfl rfl), ?_⟩
  simp -implicitDefEqProofs (disch := first | decide | exact of_eq_true (eq_true rfl) | omega | assumption) only [decide_true, Bool.not_true,  ↓vcD, vcE, ↓vcG, vcF, evs, evP, evB, intsOf, fillC, Value.cells, pt, Value.oneCell', reduceIte, reduceCtorEq, Nat.reduceEqDiff, Nat.reduceAdd, Nat.reduceMul, Nat.reduceLT, Nat.reduceBEq, Nat.reduceLeDiff, Nat.reduceSub]
  refine ITri.cond (v := false) rfl (fun h => by cases h) (fun _ => ?_)
  refine ITri.seq ?_
  have g : ¬ (n : Int) > 30 := by omega
  refine ITri.reg pok ?_; simp -implicitDefEqProofs (disch := first | decide | exact of_eq_true (eq_true rfl) | omega | assumption) only [g, decide_false,  ↓vcD, vcE, ↓vcG, vcF, evs, evP, evB, intsOf, fillC, Value.cells, pt, Value.oneCell', reduceIte, reduceCtorEq, Nat.reduceEqDiff, Nat.reduceAdd, Nat.reduceMul, Nat.reduceLT, Nat.reduceBEq, Nat.reduceLeDiff, Nat.reduceSub] -- r3
  refine ITri.cond (v := false) rfl (fun h => by cases h) (fun _ => ?_)
  refine ITri.seq ?_
  refine ITri.reg pok ?_; simp -implicitDefEqProofs (disch := first | decide | exact of_eq_true (eq_true rfl) | omega | assumption) only [ ↓vcD, vcE, ↓vcG, vcF, evs, evP, evB, intsOf, fillC, Value.cells, pt, Value.oneCell', reduceIte, reduceCtorEq, Nat.reduceEqDiff, Nat.reduceAdd, Nat.reduceMul, Nat.reduceLT, Nat.reduceBEq, Nat.reduceLeDiff, Nat.reduceSub] -- r5
  refine ⟨_, _, containsS_f 26 badS badS_f n rs hn (by omega) (sees0 rfl (of_decide_eq_true rfl)) (Rd.hq rfl rfl), ?_⟩
  rw [hx]
  try simp -implicitDefEqProofs (disch := first | decide | exact of_eq_true (eq_true rfl) | omega | assumption) only [ ↓vcD, vcE, ↓vcG, vcF, evs, evP, evB, intsOf, fillC, Value.cells, pt, Value.oneCell', reduceIte, reduceCtorEq, Nat.reduceEqDiff, Nat.reduceAdd, Nat.reduceMul, Nat.reduceLT, Nat.reduceBEq, Nat.reduceLeDiff, Nat.reduceSub]
  refine ITri.cond (v := true) rfl (fun _ => ?_) (fun h => by cases h)
  refine ITri.seq ?_
  refine ITri.reg pok ?_; simp -implicitDefEqProofs (disch := first | decide | exact of_eq_true (eq_true rfl) | omega | assumption) only [wr5,  ↓vcD, vcE, ↓vcG, vcF, evs, evP, evB, intsOf, fillC, Value.cells, pt, Value.oneCell', reduceIte, reduceCtorEq, Nat.reduceEqDiff, Nat.reduceAdd, Nat.reduceMul, Nat.reduceLT, Nat.reduceBEq, Nat.reduceLeDiff, Nat.reduceSub] -- r6
  refine ITri.ret ?_; exact EndR.plain (vs := [.agg ⟨[I6 0, I6 0, I6 0, I6 0, .slice none 0 0]⟩, .int .i64 2]) (by simp) (resF_agg 5 rfl (by kernel_rfl) (by simp -implicitDefEqProofs (disch := first | decide | exact of_eq_true (eq_true rfl) | omega | assumption) only [↓vcD, vcE, ↓vcG, vcF, evs, evP, evB, intsOf, fillC, Value.cells, pt, Value.oneCell', reduceIte, reduceCtorEq, Nat.reduceEqDiff, Nat.reduceAdd, Nat.reduceMul, Nat.reduceLT, Nat.reduceBEq, Nat.reduceLeDiff, Nat.reduceSub]) (resF_tmp rfl resF_nil)) (by rfl) (by rfl)
theorem removeB_c (h1 : 0 ≤ lo) (h2 : lo ≤ hi) (h3 : hi ≤ 10000000) (hn : rs.length = n) (hb : n ≤ 10) (hx : rs.any badS = false) (hs : ¬ ∀ j, j + 1 < n → (nth rs j).k ≤ (nth rs (j + 1)).k) : Fc Try.prog 8 [shV lo hi (s1 4 4), s2 n c] (Hp 3 (RM rs)) (badV 9) (Hp 3 (RM rs)) := by
  refine Fc.intro0 fn8 (by simp) rfl rfl ?_; simp only [argF]
  refine ITri.seq ?_
  refine ITri.reg pok ?_; simp -implicitDefEqProofs (disch := first | decide | exact of_eq_true (eq_true rfl) | omega | assumption) only [ ↓vcD, vcE, ↓vcG, vcF, evs, evP, evB, intsOf, fillC, Value.cells, pt, Value.oneCell', reduceIte, reduceCtorEq, Nat.reduceEqDiff, Nat.reduceAdd, Nat.reduceMul, Nat.reduceLT, Nat.reduceBEq, Nat.reduceLeDiff, Nat.reduceSub] -- r0
  refine ITri.seq ?_
  refine ITri.block ?_ -- 0
  refine ITri.seq ?_
  refine ITri.reg pok ?_; simp -implicitDefEqProofs (disch := first | decide | exact of_eq_true (eq_true rfl) | omega | assumption) only [ ↓vcD, vcE, ↓vcG, vcF, evs, evP, evB, intsOf, fillC, Value.cells, pt, Value.oneCell', reduceIte, reduceCtorEq, Nat.reduceEqDiff, Nat.reduceAdd, Nat.reduceMul, Nat.reduceLT, Nat.reduceBEq, Nat.reduceLeDiff, Nat.reduceSub] -- r1
  refine ⟨_, _, sheet_f h1 h2 h3 (sees0 rfl (of_decide_eq_true rfl)) (get_hq rfl rfl), ?_⟩
  simp -implicitDefEqProofs (disch := first | decide | exact of_eq_true (eq_true rfl) | omega | assumption) only [decide_true, Bool.not_true,  ↓vcD, vcE, ↓vcG, vcF, evs, evP, evB, intsOf, fillC, Value.cells, pt, Value.oneCell', reduceIte, reduceCtorEq, Nat.reduceEqDiff, Nat.reduceAdd, Nat.reduceMul, Nat.reduceLT, Nat.reduceBEq, Nat.reduceLeDiff, Nat.reduceSub]
  refine ITri.cond (v := false) rfl (fun h => by cases h) (fun _ => ?_)
  refine ITri.seq ?_
  have g : ¬ (n : Int) > 30 := by omega
  refine ITri.reg pok ?_; simp -implicitDefEqProofs (disch := first | decide | exact of_eq_true (eq_true rfl) | omega | assumption) only [g, decide_false,  ↓vcD, vcE, ↓vcG, vcF, evs, evP, evB, intsOf, fillC, Value.cells, pt, Value.oneCell', reduceIte, reduceCtorEq, Nat.reduceEqDiff, Nat.reduceAdd, Nat.reduceMul, Nat.reduceLT, Nat.reduceBEq, Nat.reduceLeDiff, Nat.reduceSub] -- r3
  refine ITri.cond (v := false) rfl (fun h => by cases h) (fun _ => ?_)
  refine ITri.seq ?_
  refine ITri.reg pok ?_; simp -implicitDefEqProofs (disch := first | decide | exact of_eq_true (eq_true rfl) | omega | assumption) only [ ↓vcD, vcE, ↓vcG, vcF, evs, evP, evB, intsOf, fillC, Value.cells, pt, Value.oneCell', reduceIte, reduceCtorEq, Nat.reduceEqDiff, Nat.reduceAdd, Nat.reduceMul, Nat.reduceLT, Nat.reduceBEq, Nat.reduceLeDiff, Nat.reduceSub] -- r5
  refine ⟨_, _, containsS_f 26 badS badS_f n rs hn (by omega) (sees0 rfl (of_decide_eq_true rfl)) (Rd.hq rfl rfl), ?_⟩
  rw [hx]
  try simp -implicitDefEqProofs (disch := first | decide | exact of_eq_true (eq_true rfl) | omega | assumption) only [ ↓vcD, vcE, ↓vcG, vcF, evs, evP, evB, intsOf, fillC, Value.cells, pt, Value.oneCell', reduceIte, reduceCtorEq, Nat.reduceEqDiff, Nat.reduceAdd, Nat.reduceMul, Nat.reduceLT, Nat.reduceBEq, Nat.reduceLeDiff, Nat.reduceSub]
  refine ITri.cond (v := false) rfl (fun h => by cases h) (fun _ => ?_)
  refine ITri.seq ?_
  refine ITri.reg pok ?_; simp -implicitDefEqProofs (disch := first | decide | exact of_eq_true (eq_true rfl) | omega | assumption) only [ ↓vcD, vcE, ↓vcG, vcF, evs, evP, evB, intsOf, fillC, Value.cells, pt, Value.oneCell', reduceIte, reduceCtorEq, Nat.reduceEqDiff, Nat.reduceAdd, Nat.reduceMul, Nat.reduceLT, Nat.reduceBEq, Nat.reduceLeDiff, Nat.reduceSub] -- r7
  refine ⟨_, _, sorted_f (r := false) hn (by omega) (fun i hi => (okRm hx (by omega)).1) ⟨fun h => (by cases h), fun h => absurd h hs⟩ (sees0 rfl (of_decide_eq_true rfl)) (Rd.hq rfl rfl), ?_⟩
  simp -implicitDefEqProofs (disch := first | decide | exact of_eq_true (eq_true rfl) | omega | assumption) only [Bool.not_false,  ↓vcD, vcE, ↓vcG, vcF, evs, evP, evB, intsOf, fillC, Value.cells, pt, Value.oneCell', reduceIte, reduceCtorEq, Nat.reduceEqDiff, Nat.reduceAdd, Nat.reduceMul, Nat.reduceLT, Nat.reduceBEq, Nat.reduceLeDiff, Nat.reduceSub]
  refine ITri.cond (v := true) rfl (fun _ => ?_) (fun h => by cases h)
  refine ITri.seq ?_
  refine ITri.reg pok ?_; simp -implicitDefEqProofs (disch := first | decide | exact of_eq_true (eq_true rfl) | omega | assumption) only [wr5,  ↓vcD, vcE, ↓vcG, vcF, evs, evP, evB, intsOf, fillC, Value.cells, pt, Value.oneCell', reduceIte, reduceCtorEq, Nat.reduceEqDiff, Nat.reduceAdd, Nat.reduceMul, Nat.reduceLT, Nat.reduceBEq, Nat.reduceLeDiff, Nat.reduceSub] -- r8
  refine ITri.ret ?_; exact EndR.plain (vs := [.agg ⟨[I6 0, I6 0, I6 0, I6 0, .slice none 0 0]⟩, .int .i64 9]) (by simp) (resF_agg 5 rfl (by kernel_rfl) (by simp -implicitDefEqProofs (disch := first | decide | exact of_eq_true (eq_true rfl) | omega | assumption) only [↓vcD, vcE, ↓vcG, vcF, evs, evP, evB, intsOf, fillC, Value.cells, pt, Value.oneCell', reduceIte, reduceCtorEq, Nat.reduceEqDiff, Nat.reduceAdd, Nat.reduceMul, Nat.reduceLT, Nat.reduceBEq, Nat.reduceLeDiff, Nat.reduceSub]) (resF_tmp rfl resF_nil)) (by rfl) (by rfl)
end
theorem z_lo : ∀ k, k < 4 → zr[k * 2]? = some (I6 0)
  | 0, _ => rfl
  | 1, _ => rfl
  | 2, _ => rfl
  | 3, _ => rfl
  | n + 4, h => absurd h (by omega)
theorem z_hi : ∀ k, k < 4 → [I6 0, I6 0, I6 0, I6 0, I6 0, I6 0, I6 0][k * 2]? = some (I6 0)
  | 0, _ => rfl
  | 1, _ => rfl
  | 2, _ => rfl
  | 3, _ => rfl
  | n + 4, h => absurd h (by omega)
theorem z_wl : ∀ k, k < 4 → writeAt zr (k * 2) [I6 0] = zr
  | 0, _ => rfl
  | 1, _ => rfl
  | 2, _ => rfl
  | 3, _ => rfl
  | n + 4, h => absurd h (by omega)
theorem z_wh : ∀ k, k < 4 → writeAt zr (k * 2 + 1) [I6 0] = zr
  | 0, _ => rfl
  | 1, _ => rfl
  | 2, _ => rfl
  | 3, _ => rfl
  | n + 4, h => absurd h (by omega)
theorem w5_2 (z0 z1 z2 z3 z4 a : Value) : writeAt [z0, z1, z2, z3, z4] 2 [a] = [z0, z1, a, z3, z4] := rfl
theorem w5_3 (z0 z1 z2 z3 z4 a : Value) : writeAt [z0, z1, z2, z3, z4] 3 [a] = [z0, z1, z2, a, z4] := rfl
theorem w5_4 (z0 z1 z2 z3 z4 a : Value) : writeAt [z0, z1, z2, z3, z4] 4 [a] = [z0, z1, z2, z3, a] := rfl
abbrev shO (lo hi : Int) (s : Value) : Option AObj := some (.cells ⟨[I6 2, I6 2, I6 lo, I6 hi, s], 1, false⟩)
abbrev noO : Option AObj := some (.cells ⟨[I6 0, I6 0, I6 0, I6 0, .slice none 0 0], 1, false⟩)
abbrev zO : Option AObj := some (.cells ⟨[I6 0, I6 0], 1, false⟩)
/-- The end: the sites are copied. -/
theorem remove_z {lo hi : Int} {rs : List Rm} : ITri Try.prog 124 none 3 ir8_45 [(2, pt 3), (4, pt 4), (7, I6 0)] [] (Hp 3 [none, some (.cells ⟨zr, 0, false⟩), some (.cells ⟨rows eR rs, 0, false⟩), shO lo hi (s1 4 4), noO, zO]) (EndR Try.prog [.cell 4 47, .tmp 5] 3 [.cells ⟨zr, 2, true⟩] (.tuple #[shV lo hi (.slice (some ⟨3, 0, none⟩) 4 openB), I6 0])) := by
  refine ITri.seq ?_
  refine ITri.reg pok ?_; simp -implicitDefEqProofs (disch := first | decide | exact of_eq_true (eq_true rfl) | omega | assumption) only [ ↓vcD, vcE, ↓vcG, vcF, evs, evP, evB, intsOf, fillC, Value.cells, pt, Value.oneCell', reduceIte, reduceCtorEq, Nat.reduceEqDiff, Nat.reduceAdd, Nat.reduceMul, Nat.reduceLT, Nat.reduceBEq, Nat.reduceLeDiff, Nat.reduceSub] -- r21
  refine ⟨_, _, clone_f (rs := z4) (n := 4) rfl (by decide) (get_hq rfl rfl), ?_⟩
  simp -implicitDefEqProofs (disch := first | decide | exact of_eq_true (eq_true rfl) | omega | assumption) only [w5_4,  ↓vcD, vcE, ↓vcG, vcF, evs, evP, evB, intsOf, fillC, Value.cells, pt, Value.oneCell', reduceIte, reduceCtorEq, Nat.reduceEqDiff, Nat.reduceAdd, Nat.reduceMul, Nat.reduceLT, Nat.reduceBEq, Nat.reduceLeDiff, Nat.reduceSub]
  refine ITri.seq ?_
  refine ITri.seq ?_
  refine ITri.reg pok ?_; simp -implicitDefEqProofs (disch := first | decide | exact of_eq_true (eq_true rfl) | omega | assumption) only [ ↓vcD, vcE, ↓vcG, vcF, evs, evP, evB, intsOf, fillC, Value.cells, pt, Value.oneCell', reduceIte, reduceCtorEq, Nat.reduceEqDiff, Nat.reduceAdd, Nat.reduceMul, Nat.reduceLT, Nat.reduceBEq, Nat.reduceLeDiff, Nat.reduceSub] -- r22
  refine ITri.block ?_ -- 4
  refine ITri.loop (fun k : Nat => [(2, pt 3), (4, pt 4), (7, I6 0), (98, .int .i64 (4 : Nat)), (99, .int .i64 k)]) (fun _ => []) (fun k => Hp 3 [none, some (.cells ⟨zr, 0, false⟩), some (.cells ⟨rows eR rs, 0, false⟩), shO lo hi (.slice (some ⟨6, 0, none⟩) 4 openB), noO, zO, some (.cells ⟨zr, 2, true⟩)]) (fun k => k ≤ 4) (fun k => 4 - k) 0 (Nat.zero_le _) (Wk.sub ⟨rfl, rfl, rfl, rfl, rfl, trivial⟩) fun k hk => ?_
  refine ITri.seq ?_
  refine ITri.reg pok ?_; simp -implicitDefEqProofs (disch := first | decide | exact of_eq_true (eq_true rfl) | omega | assumption) only [ ↓vcD, vcE, ↓vcG, vcF, evs, evP, evB, intsOf, fillC, Value.cells, pt, Value.oneCell', reduceIte, reduceCtorEq, Nat.reduceEqDiff, Nat.reduceAdd, Nat.reduceMul, Nat.reduceLT, Nat.reduceBEq, Nat.reduceLeDiff, Nat.reduceSub] -- r23
  refine ITri.seq ?_
  refine ITri.condD (by rfl) (fun h1 => ?_) (fun h1 => ?_)
  · have h2 : k < 4 := by omega
    have g1 := z_lo k h2
    have g2 := z_hi k h2
    have g3 := z_wl k h2
    have g4 := z_wh k h2
    have z0 : (0 : Int) - 0 = 0 := rfl
    have z1 : (0 : Int) + 0 = 0 := rfl
    have hk1 : (k : Int) + 1 = ((k + 1 : Nat) : Int) := by omega
    have l1 : k * 2 < 8 := by omega
    have l2 : k * 2 + 1 < 8 := by omega
    refine ITri.skip ?_; simp only [SeqQ_normal, BlkQ_normal]
    refine ITri.seq ?_
    refine ITri.block ?_ -- 5
    refine ITri.seq ?_
    refine ITri.reg pok ?_; simp -implicitDefEqProofs (disch := first | decide | exact of_eq_true (eq_true rfl) | omega | assumption) only [ ↓vcD, vcE, ↓vcG, vcF, evs, evP, evB, intsOf, fillC, Value.cells, pt, Value.oneCell', reduceIte, reduceCtorEq, Nat.reduceEqDiff, Nat.reduceAdd, Nat.reduceMul, Nat.reduceLT, Nat.reduceBEq, Nat.reduceLeDiff, Nat.reduceSub] -- r24
    refine ITri.seq ?_
    refine ITri.reg pok ?_; simp -implicitDefEqProofs (disch := first | decide | exact of_eq_true (eq_true rfl) | omega | assumption) only [g1, g3, z0,  ↓vcD, vcE, ↓vcG, vcF, evs, evP, evB, intsOf, fillC, Value.cells, pt, Value.oneCell', reduceIte, reduceCtorEq, Nat.reduceEqDiff, Nat.reduceAdd, Nat.reduceMul, Nat.reduceLT, Nat.reduceBEq, Nat.reduceLeDiff, Nat.reduceSub] -- r25
    refine ITri.reg pok ?_; simp -implicitDefEqProofs (disch := first | decide | exact of_eq_true (eq_true rfl) | omega | assumption) only [g2, g4, z1,  ↓vcD, vcE, ↓vcG, vcF, evs, evP, evB, intsOf, fillC, Value.cells, pt, Value.oneCell', reduceIte, reduceCtorEq, Nat.reduceEqDiff, Nat.reduceAdd, Nat.reduceMul, Nat.reduceLT, Nat.reduceBEq, Nat.reduceLeDiff, Nat.reduceSub] -- r26
    refine ITri.reg pok ?_; simp -implicitDefEqProofs (disch := first | decide | exact of_eq_true (eq_true rfl) | omega | assumption) only [hk1,  ↓vcD, vcE, ↓vcG, vcF, evs, evP, evB, intsOf, fillC, Value.cells, pt, Value.oneCell', reduceIte, reduceCtorEq, Nat.reduceEqDiff, Nat.reduceAdd, Nat.reduceMul, Nat.reduceLT, Nat.reduceBEq, Nat.reduceLeDiff, Nat.reduceSub] -- r27
    exact LoopQ.next (k + 1) (by omega) (by omega) (Wk.sub ⟨rfl, rfl, rfl, rfl, rfl, trivial⟩)
  refine ITri.exit ?_; try simp -implicitDefEqProofs (disch := first | decide | exact of_eq_true (eq_true rfl) | omega | assumption) only [ ↓vcD, vcE, ↓vcG, vcF, evs, evP, evB, intsOf, fillC, Value.cells, pt, Value.oneCell', reduceIte, reduceCtorEq, Nat.reduceEqDiff, Nat.reduceAdd, Nat.reduceMul, Nat.reduceLT, Nat.reduceBEq, Nat.reduceLeDiff, Nat.reduceSub] -- exit 4
  refine ITri.seq ?_
  refine ITri.reg pok ?_; simp -implicitDefEqProofs (disch := first | decide | exact of_eq_true (eq_true rfl) | omega | assumption) only [wr5,  ↓vcD, vcE, ↓vcG, vcF, evs, evP, evB, intsOf, fillC, Value.cells, pt, Value.oneCell', reduceIte, reduceCtorEq, Nat.reduceEqDiff, Nat.reduceAdd, Nat.reduceMul, Nat.reduceLT, Nat.reduceBEq, Nat.reduceLeDiff, Nat.reduceSub] -- r28
  refine ITri.ret ?_
  exact end_mk (k := 6) (mk := fun s => .tuple #[shV lo hi s, I6 0]) ⟨fun _ _ _ => rfl, fun _ _ _ h => ⟨⟨trivial, trivial, trivial, trivial, h, trivial⟩, trivial, trivial⟩⟩ (by decide) rfl rfl (resF_agg (cs := [I6 2, I6 2, I6 lo, I6 hi, .slice (some ⟨6, 0, none⟩) 4 openB]) 5 rfl (by kernel_rfl) (cells_all rfl rfl) (resF_tmp rfl resF_nil)) rfl
set_option maxHeartbeats 1000000 in
theorem remove_l {lo hi : Int} {rs : List Rm} {n c : Nat} {v : Value} {os : List AObj} (h1 : 0 ≤ lo) (h2 : lo ≤ hi) (h3 : hi ≤ 10000000) (hn : rs.length = n) (hb : n ≤ 10) (hx : rs.any badS = false) (hs : ∀ j, j + 1 < n → (nth rs j).k ≤ (nth rs (j + 1)).k)
    (hE : lo - pH (am rs) n < 0 → os = [] ∧ v = badV 91)
    (hG : ¬ lo - pH (am rs) n < 0 → os = [.cells ⟨zr, 2, true⟩] ∧ v = .tuple #[shV (lo - pH (am rs) n) (hi - pL (am rs) n) (.slice (some ⟨3, 0, none⟩) 4 openB), I6 0]) :
    ITri Try.prog 124 none 3 ir8_46 [(1, s2 n c), (2, pt 3), (4, pt 4), (6, pt 5), (7, I6 0)] [] (Hp 3 [none, some (.cells ⟨zr, 0, false⟩), some (.cells ⟨rows eR rs, 0, false⟩), shO lo hi (s1 4 4), noO, zO]) (EndR Try.prog [.cell 4 47, .tmp 5] 3 os v) := by
  have hmono := pH_mono hx
  have hbd := sums_bd hx
  refine ITri.seq ?_
  refine ITri.seq ?_
  refine ITri.reg pok ?_; simp -implicitDefEqProofs (disch := first | decide | exact of_eq_true (eq_true rfl) | omega | assumption) only [ ↓vcD, vcE, ↓vcG, vcF, evs, evP, evB, intsOf, fillC, Value.cells, pt, Value.oneCell', reduceIte, reduceCtorEq, Nat.reduceEqDiff, Nat.reduceAdd, Nat.reduceMul, Nat.reduceLT, Nat.reduceBEq, Nat.reduceLeDiff, Nat.reduceSub] -- r10
  refine ITri.block ?_ -- 1
  have i1 : lo - pH (am rs) 0 = lo := by show lo - 0 = lo; omega
  have i2 : hi - pL (am rs) 0 = hi := by show hi - 0 = hi; omega
  refine ITri.loop (fun k : Nat => [(2, pt 3), (4, pt 4), (6, pt 5), (7, I6 0), (32, s2 n c), (33, .int .i64 n), (34, .int .i64 k)]) (fun _ => []) (fun k => Hp 3 [none, some (.cells ⟨zr, 0, false⟩), some (.cells ⟨rows eR rs, 0, false⟩), shO (lo - pH (am rs) k) (hi - pL (am rs) k) (s1 4 4), noO, zO]) (fun k => k ≤ n ∧ 0 ≤ lo - pH (am rs) k) (fun k => n - k) 0 ⟨Nat.zero_le _, by rw [i1]; exact h1⟩ (by rw [i1, i2]; exact Wk.sub ⟨rfl, rfl, rfl, rfl, rfl, rfl, rfl, trivial⟩) fun k hk => ?_
  obtain ⟨hk, hk0⟩ := hk
  refine ITri.seq ?_
  refine ITri.reg pok ?_; simp -implicitDefEqProofs (disch := first | decide | exact of_eq_true (eq_true rfl) | omega | assumption) only [ ↓vcD, vcE, ↓vcG, vcF, evs, evP, evB, intsOf, fillC, Value.cells, pt, Value.oneCell', reduceIte, reduceCtorEq, Nat.reduceEqDiff, Nat.reduceAdd, Nat.reduceMul, Nat.reduceLT, Nat.reduceBEq, Nat.reduceLeDiff, Nat.reduceSub] -- r11
  refine ITri.seq ?_
  refine ITri.condD (by rfl) (fun hi1 => ?_) (fun hi1 => ?_)
  · have hkn : k < n := by omega
    have g1 := takeR (xs := rs) (i := k) (by omega)
    have ok := okRm hx (show k < rs.length by omega)
    have e := nth_am (rs := rs) (i := k) (by omega)
    have b0 := hbd k (by omega)
    have b1 := hbd (k + 1) (by omega)
    have m1 := hmono n (by omega) (k + 1) (by omega)
    have sH : pH (am rs) (k + 1) = pH (am rs) k + (nth (am rs) k).2 := rfl
    have sL : pL (am rs) (k + 1) = pL (am rs) k + (nth (am rs) k).1 := rfl
    rw [e] at sH sL
    simp only at sH sL
    generalize (nth rs k).lo = a at *
    generalize (nth rs k).hi = b at *
    have d1 : lo - pH (am rs) k - b = lo - pH (am rs) (k + 1) := by omega
    have d2 : hi - pL (am rs) k - a = hi - pL (am rs) (k + 1) := by omega
    obtain ⟨H1', hH1⟩ : ∃ x, pH (am rs) (k + 1) = x := ⟨_, rfl⟩
    obtain ⟨L1', hL1⟩ : ∃ x, pL (am rs) (k + 1) = x := ⟨_, rfl⟩
    rw [hH1] at b1 m1 sH d1
    rw [hL1] at b1 sL d2
    generalize pH (am rs) k = H0' at *
    generalize pL (am rs) k = L0' at *
    have z1 : (0 : Int) + 0 = 0 := rfl
    have hk1 : (k : Int) + 1 = ((k + 1 : Nat) : Int) := by omega
    refine ITri.skip ?_; simp only [SeqQ_normal, BlkQ_normal]
    refine ITri.seq ?_
    refine ITri.block ?_ -- 2
    refine ITri.seq ?_
    refine ITri.reg pok ?_; simp -implicitDefEqProofs (disch := first | decide | exact of_eq_true (eq_true rfl) | omega | assumption) only [g1,  ↓vcD, vcE, ↓vcG, vcF, evs, evP, evB, intsOf, fillC, Value.cells, pt, Value.oneCell', reduceIte, reduceCtorEq, Nat.reduceEqDiff, Nat.reduceAdd, Nat.reduceMul, Nat.reduceLT, Nat.reduceBEq, Nat.reduceLeDiff, Nat.reduceSub] -- r12
    refine ITri.seq ?_
    refine ITri.reg pok ?_; simp -implicitDefEqProofs (disch := first | decide | exact of_eq_true (eq_true rfl) | omega | assumption) only [d1, w5_2,  ↓vcD, vcE, ↓vcG, vcF, evs, evP, evB, intsOf, fillC, Value.cells, pt, Value.oneCell', reduceIte, reduceCtorEq, Nat.reduceEqDiff, Nat.reduceAdd, Nat.reduceMul, Nat.reduceLT, Nat.reduceBEq, Nat.reduceLeDiff, Nat.reduceSub] -- r13
    refine ITri.seq ?_
    refine ITri.reg pok ?_; simp -implicitDefEqProofs (disch := first | decide | exact of_eq_true (eq_true rfl) | omega | assumption) only [d2, w5_3,  ↓vcD, vcE, ↓vcG, vcF, evs, evP, evB, intsOf, fillC, Value.cells, pt, Value.oneCell', reduceIte, reduceCtorEq, Nat.reduceEqDiff, Nat.reduceAdd, Nat.reduceMul, Nat.reduceLT, Nat.reduceBEq, Nat.reduceLeDiff, Nat.reduceSub] -- r14
    refine ITri.seq ?_
    refine ITri.reg pok ?_; simp -implicitDefEqProofs (disch := first | decide | exact of_eq_true (eq_true rfl) | omega | assumption) only [z1,  ↓vcD, vcE, ↓vcG, vcF, evs, evP, evB, intsOf, fillC, Value.cells, pt, Value.oneCell', reduceIte, reduceCtorEq, Nat.reduceEqDiff, Nat.reduceAdd, Nat.reduceMul, Nat.reduceLT, Nat.reduceBEq, Nat.reduceLeDiff, Nat.reduceSub] -- r15
    refine ITri.block ?_ -- 3
    refine ITri.seq ?_
    by_cases c1 : lo - H1' < 0
    · obtain ⟨rfl, rfl⟩ := hE (by omega)
      refine ITri.reg pok ?_; simp -implicitDefEqProofs (disch := first | decide | exact of_eq_true (eq_true rfl) | omega | assumption) only [c1, decide_true,  ↓vcD, vcE, ↓vcG, vcF, evs, evP, evB, intsOf, fillC, Value.cells, pt, Value.oneCell', reduceIte, reduceCtorEq, Nat.reduceEqDiff, Nat.reduceAdd, Nat.reduceMul, Nat.reduceLT, Nat.reduceBEq, Nat.reduceLeDiff, Nat.reduceSub] -- r16
      refine ITri.cond (v := true) rfl (fun _ => ?_) (fun h => by cases h)
      refine ITri.seq ?_
      refine ITri.reg pok ?_; simp -implicitDefEqProofs (disch := first | decide | exact of_eq_true (eq_true rfl) | omega | assumption) only [wr5,  ↓vcD, vcE, ↓vcG, vcF, evs, evP, evB, intsOf, fillC, Value.cells, pt, Value.oneCell', reduceIte, reduceCtorEq, Nat.reduceEqDiff, Nat.reduceAdd, Nat.reduceMul, Nat.reduceLT, Nat.reduceBEq, Nat.reduceLeDiff, Nat.reduceSub] -- r17
      refine ITri.ret ?_; exact EndR.plain (vs := [.agg ⟨[I6 0, I6 0, I6 0, I6 0, .slice none 0 0]⟩, .int .i64 91]) (by simp) (resF_agg 5 rfl (by kernel_rfl) (by simp -implicitDefEqProofs (disch := first | decide | exact of_eq_true (eq_true rfl) | omega | assumption) only [↓vcD, vcE, ↓vcG, vcF, evs, evP, evB, intsOf, fillC, Value.cells, pt, Value.oneCell', reduceIte, reduceCtorEq, Nat.reduceEqDiff, Nat.reduceAdd, Nat.reduceMul, Nat.reduceLT, Nat.reduceBEq, Nat.reduceLeDiff, Nat.reduceSub]) (resF_tmp rfl resF_nil)) (by rfl) (by rfl)
    have z2 : lo - H1' + 0 = lo - H1' := Int.add_zero _
    have z3 : lo - H1' - 0 = lo - H1' := Int.sub_zero _
    have z4 : (0 : Int) - 0 = 0 := rfl
    have n1 : ¬ (0 : Int) < -1000000 := by decide
    have n2 : ¬ (0 : Int) > 1000000 := by decide
    refine ITri.reg pok ?_; simp -implicitDefEqProofs (disch := first | decide | exact of_eq_true (eq_true rfl) | omega | assumption) only [c1, z2, z3, decide_false,  ↓vcD, vcE, ↓vcG, vcF, evs, evP, evB, intsOf, fillC, Value.cells, pt, Value.oneCell', reduceIte, reduceCtorEq, Nat.reduceEqDiff, Nat.reduceAdd, Nat.reduceMul, Nat.reduceLT, Nat.reduceBEq, Nat.reduceLeDiff, Nat.reduceSub] -- r16
    refine ITri.cond (v := false) rfl (fun h => by cases h) (fun _ => ?_)
    refine ITri.seq ?_
    refine ITri.reg pok ?_; simp -implicitDefEqProofs (disch := first | decide | exact of_eq_true (eq_true rfl) | omega | assumption) only [z4, z1, n1, n2, decide_false,  ↓vcD, vcE, ↓vcG, vcF, evs, evP, evB, intsOf, fillC, Value.cells, pt, Value.oneCell', reduceIte, reduceCtorEq, Nat.reduceEqDiff, Nat.reduceAdd, Nat.reduceMul, Nat.reduceLT, Nat.reduceBEq, Nat.reduceLeDiff, Nat.reduceSub] -- r18
    refine ITri.cond (v := false) rfl (fun h => by cases h) (fun _ => ?_); refine ITri.skip ?_; simp only [SeqQ_normal, BlkQ_normal]
    refine ITri.reg pok ?_; simp -implicitDefEqProofs (disch := first | decide | exact of_eq_true (eq_true rfl) | omega | assumption) only [hk1,  ↓vcD, vcE, ↓vcG, vcF, evs, evP, evB, intsOf, fillC, Value.cells, pt, Value.oneCell', reduceIte, reduceCtorEq, Nat.reduceEqDiff, Nat.reduceAdd, Nat.reduceMul, Nat.reduceLT, Nat.reduceBEq, Nat.reduceLeDiff, Nat.reduceSub] -- r20
    exact LoopQ.next (k + 1) ⟨by omega, by omega⟩ (by omega) (Wk.gc [0, 1, 2, 3, 4, 5] [] (of_decide_eq_true rfl) (of_decide_eq_true rfl) rfl rfl (of_decide_eq_true rfl) rfl rfl (by repeat (first | exact xiOK_nil | refine xiOK_cons (by first | trivial | exact roomOK _ (by decide)) ?_)) rfl (by simp -implicitDefEqProofs (disch := first | decide | exact of_eq_true (eq_true rfl) | omega | assumption) only [hH1, hL1, objOK, sgL, xiL, objAt, nilO, OM, mvL, mv, mvS, okS, okP, mvL_rows, okML, okM, okML_rows, List.getElem?_cons_zero, Option.getD_some, implies_true, imp_self, ne_eq, and_self, true_or, or_true, Nat.zero_mul, Nat.sub_self, openB_self, ↓vcD, vcE, ↓vcG, vcF, evs, evP, evB, intsOf, fillC, Value.cells, pt, Value.oneCell', reduceIte, reduceCtorEq, Nat.reduceEqDiff, Nat.reduceAdd, Nat.reduceMul, Nat.reduceLT, Nat.reduceBEq, Nat.reduceLeDiff, Nat.reduceSub]) (by simp -implicitDefEqProofs (disch := first | decide | exact of_eq_true (eq_true rfl) | omega | assumption) only [hH1, hL1, valOK, sgL, xiL, mv, mvA, mvL, mvS, okS, okP, okM, okMA, okML, Option.getD_some, implies_true, and_self, true_or, or_true, Int.natCast_add, Int.cast_ofNat_Int, Nat.zero_mul, Nat.sub_self, openB_self, ↓vcD, vcE, ↓vcG, vcF, evs, evP, evB, intsOf, fillC, Value.cells, pt, Value.oneCell', reduceIte, reduceCtorEq, Nat.reduceEqDiff, Nat.reduceAdd, Nat.reduceMul, Nat.reduceLT, Nat.reduceBEq, Nat.reduceLeDiff, Nat.reduceSub]) (fun _ h => by cases h) ⟨rfl, fun _ h => by cases h⟩)
  refine ITri.exit ?_; try simp -implicitDefEqProofs (disch := first | decide | exact of_eq_true (eq_true rfl) | omega | assumption) only [ ↓vcD, vcE, ↓vcG, vcF, evs, evP, evB, intsOf, fillC, Value.cells, pt, Value.oneCell', reduceIte, reduceCtorEq, Nat.reduceEqDiff, Nat.reduceAdd, Nat.reduceMul, Nat.reduceLT, Nat.reduceBEq, Nat.reduceLeDiff, Nat.reduceSub] -- exit 1
  obtain rfl : n = k := by omega
  have hlow : ¬ lo - pH (am rs) n < 0 := by omega
  obtain ⟨rfl, rfl⟩ := hG hlow
  exact ITri.weak (l' := [(2, pt 3), (4, pt 4), (7, I6 0)]) (ms' := []) (h' := _) (Wk.sub ⟨rfl, rfl, rfl, trivial⟩) remove_z
theorem remove_c {lo hi : Int} {rs : List Rm} {n c : Nat} {v : Value} {os : List AObj} (h1 : 0 ≤ lo) (h2 : lo ≤ hi) (h3 : hi ≤ 10000000) (hn : rs.length = n) (hb : n ≤ 10) (hx : rs.any badS = false) (hs : ∀ j, j + 1 < n → (nth rs j).k ≤ (nth rs (j + 1)).k)
    (hE : lo - pH (am rs) n < 0 → os = [] ∧ v = badV 91)
    (hG : ¬ lo - pH (am rs) n < 0 → os = [.cells ⟨zr, 2, true⟩] ∧ v = .tuple #[shV (lo - pH (am rs) n) (hi - pL (am rs) n) (.slice (some ⟨3, 0, none⟩) 4 openB), I6 0]) :
    Fc Try.prog 8 [shV lo hi (s1 4 4), s2 n c] (Hp 3 (RM rs)) v ((Hp 3 (RM rs)).news os) := by
  refine Fc.introR fn8 (by simp) rfl rfl ?_; simp only [argF]
  refine ITri.seq ?_
  refine ITri.reg pok ?_; simp -implicitDefEqProofs (disch := first | decide | exact of_eq_true (eq_true rfl) | omega | assumption) only [ ↓vcD, vcE, ↓vcG, vcF, evs, evP, evB, intsOf, fillC, Value.cells, pt, Value.oneCell', reduceIte, reduceCtorEq, Nat.reduceEqDiff, Nat.reduceAdd, Nat.reduceMul, Nat.reduceLT, Nat.reduceBEq, Nat.reduceLeDiff, Nat.reduceSub] -- r0
  refine ITri.seq ?_
  refine ITri.block ?_ -- 0
  refine ITri.seq ?_
  refine ITri.reg pok ?_; simp -implicitDefEqProofs (disch := first | decide | exact of_eq_true (eq_true rfl) | omega | assumption) only [ ↓vcD, vcE, ↓vcG, vcF, evs, evP, evB, intsOf, fillC, Value.cells, pt, Value.oneCell', reduceIte, reduceCtorEq, Nat.reduceEqDiff, Nat.reduceAdd, Nat.reduceMul, Nat.reduceLT, Nat.reduceBEq, Nat.reduceLeDiff, Nat.reduceSub] -- r1
  refine ⟨_, _, sheet_f h1 h2 h3 (sees0 rfl (of_decide_eq_true rfl)) (get_hq rfl rfl), ?_⟩
  simp -implicitDefEqProofs (disch := first | decide | exact of_eq_true (eq_true rfl) | omega | assumption) only [decide_true, Bool.not_true,  ↓vcD, vcE, ↓vcG, vcF, evs, evP, evB, intsOf, fillC, Value.cells, pt, Value.oneCell', reduceIte, reduceCtorEq, Nat.reduceEqDiff, Nat.reduceAdd, Nat.reduceMul, Nat.reduceLT, Nat.reduceBEq, Nat.reduceLeDiff, Nat.reduceSub]
  refine ITri.cond (v := false) rfl (fun h => by cases h) (fun _ => ?_)
  refine ITri.seq ?_
  have g : ¬ (n : Int) > 30 := by omega
  refine ITri.reg pok ?_; simp -implicitDefEqProofs (disch := first | decide | exact of_eq_true (eq_true rfl) | omega | assumption) only [g, decide_false,  ↓vcD, vcE, ↓vcG, vcF, evs, evP, evB, intsOf, fillC, Value.cells, pt, Value.oneCell', reduceIte, reduceCtorEq, Nat.reduceEqDiff, Nat.reduceAdd, Nat.reduceMul, Nat.reduceLT, Nat.reduceBEq, Nat.reduceLeDiff, Nat.reduceSub] -- r3
  refine ITri.cond (v := false) rfl (fun h => by cases h) (fun _ => ?_)
  refine ITri.seq ?_
  refine ITri.reg pok ?_; simp -implicitDefEqProofs (disch := first | decide | exact of_eq_true (eq_true rfl) | omega | assumption) only [ ↓vcD, vcE, ↓vcG, vcF, evs, evP, evB, intsOf, fillC, Value.cells, pt, Value.oneCell', reduceIte, reduceCtorEq, Nat.reduceEqDiff, Nat.reduceAdd, Nat.reduceMul, Nat.reduceLT, Nat.reduceBEq, Nat.reduceLeDiff, Nat.reduceSub] -- r5
  refine ⟨_, _, containsS_f 26 badS badS_f n rs hn (by omega) (sees0 rfl (of_decide_eq_true rfl)) (Rd.hq rfl rfl), ?_⟩
  rw [hx]
  try simp -implicitDefEqProofs (disch := first | decide | exact of_eq_true (eq_true rfl) | omega | assumption) only [ ↓vcD, vcE, ↓vcG, vcF, evs, evP, evB, intsOf, fillC, Value.cells, pt, Value.oneCell', reduceIte, reduceCtorEq, Nat.reduceEqDiff, Nat.reduceAdd, Nat.reduceMul, Nat.reduceLT, Nat.reduceBEq, Nat.reduceLeDiff, Nat.reduceSub]
  refine ITri.cond (v := false) rfl (fun h => by cases h) (fun _ => ?_)
  refine ITri.seq ?_
  refine ITri.reg pok ?_; simp -implicitDefEqProofs (disch := first | decide | exact of_eq_true (eq_true rfl) | omega | assumption) only [ ↓vcD, vcE, ↓vcG, vcF, evs, evP, evB, intsOf, fillC, Value.cells, pt, Value.oneCell', reduceIte, reduceCtorEq, Nat.reduceEqDiff, Nat.reduceAdd, Nat.reduceMul, Nat.reduceLT, Nat.reduceBEq, Nat.reduceLeDiff, Nat.reduceSub] -- r7
  refine ⟨_, _, sorted_f (r := true) hn (by omega) (fun i hi => (okRm hx (by omega)).1) ⟨fun _ => hs, fun _ => rfl⟩ (sees0 rfl (of_decide_eq_true rfl)) (Rd.hq rfl rfl), ?_⟩
  simp -implicitDefEqProofs (disch := first | decide | exact of_eq_true (eq_true rfl) | omega | assumption) only [Bool.not_true,  ↓vcD, vcE, ↓vcG, vcF, evs, evP, evB, intsOf, fillC, Value.cells, pt, Value.oneCell', reduceIte, reduceCtorEq, Nat.reduceEqDiff, Nat.reduceAdd, Nat.reduceMul, Nat.reduceLT, Nat.reduceBEq, Nat.reduceLeDiff, Nat.reduceSub]
  refine ITri.cond (v := false) rfl (fun h => by cases h) (fun _ => ?_); refine ITri.skip ?_; simp only [SeqQ_normal, BlkQ_normal]
  refine ITri.seq ?_
  refine ITri.reg pok ?_; simp -implicitDefEqProofs (disch := first | decide | exact of_eq_true (eq_true rfl) | omega | assumption) only [ ↓vcD, vcE, ↓vcG, vcF, evs, evP, evB, intsOf, fillC, Value.cells, pt, Value.oneCell', reduceIte, reduceCtorEq, Nat.reduceEqDiff, Nat.reduceAdd, Nat.reduceMul, Nat.reduceLT, Nat.reduceBEq, Nat.reduceLeDiff, Nat.reduceSub] -- r9
  refine ⟨_, _, hull_f (.inl rfl) (sees0 rfl (of_decide_eq_true rfl)) (get_hq rfl rfl), ?_⟩
  simp -implicitDefEqProofs (disch := first | decide | exact of_eq_true (eq_true rfl) | omega | assumption) only [wr22,  ↓vcD, vcE, ↓vcG, vcF, evs, evP, evB, intsOf, fillC, Value.cells, pt, Value.oneCell', reduceIte, reduceCtorEq, Nat.reduceEqDiff, Nat.reduceAdd, Nat.reduceMul, Nat.reduceLT, Nat.reduceBEq, Nat.reduceLeDiff, Nat.reduceSub]
  exact remove_l h1 h2 h3 hn hb hx hs hE hG
/-- The two ways that it goes, in any memory. -/
structure Good (lo : Int) (rs : List Rm) : Prop where
  ok : rs.any badS = false
  srt : ∀ j, j + 1 < rs.length → (nth rs j).k ≤ (nth rs (j + 1)).k
  low : 0 ≤ lo - pH (am rs) rs.length
section
variable {lo hi : Int} {rs : List Rm} {n c : Nat} {h : AH} {k sz k2 sz2 : Nat} {op op2 : Bool}
theorem removeG_f (h1 : 0 ≤ lo) (h2 : lo ≤ hi) (h3 : hi ≤ 10000000) (hn : rs.length = n) (hb : n ≤ 10) (G : Good lo rs) (h0 : h.sees 0 = true) (hg : h.get k = some (.cells ⟨zr, sz, op⟩)) (hg2 : h.get k2 = some (.cells ⟨rows eR rs, sz2, op2⟩)) :
    Fc Try.prog 8 [shV lo hi (.slice (some ⟨k, 0, none⟩) 4 4), .slice (some ⟨k2, 0, none⟩) n c] h (.tuple #[shV (lo - pH (am rs) n) (hi - pL (am rs) n) (.slice (some ⟨h.next, 0, none⟩) 4 openB), I6 0]) (h.news [.cells ⟨zr, 2, true⟩]) := by
  have hl := G.low
  rw [hn] at hl
  have F := remove_c (c := c) (v := .tuple #[shV (lo - pH (am rs) n) (hi - pL (am rs) n) (.slice (some ⟨3, 0, none⟩) 4 openB), I6 0]) h1 h2 h3 hn hb G.ok (by rw [← hn]; exact G.srt) (fun h => absurd h (by omega)) (fun _ => ⟨rfl, rfl⟩)
  exact Fc.lift2o (n := 4) (os := [(4, zr, 2)]) (mk := fun ss => .agg ⟨[I6 2, I6 2, I6 lo, I6 hi] ++ ss.take 1⟩ :: ([] ++ ss.drop 1 ++ [])) (mkv := fun ss => .tuple ⟨.agg ⟨[I6 2, I6 2, I6 (lo - pH (am rs) n), I6 (hi - pL (am rs) n)] ++ ss ++ []⟩ :: [I6 0]⟩) (by rw [Hq_news] at F; exact F) (MkL.ag2 rfl rfl rfl) (MkV.tup (MkL.agg1 (MkL.mid rfl rfl) rfl)) rfl (rows_no (f := eR) rs) (fun o ho => by
    simp only [List.mem_cons, List.not_mem_nil, or_false] at ho
    subst ho
    rfl) h0 hg hg2
theorem removeE_f (h1 : 0 ≤ lo) (h2 : lo ≤ hi) (h3 : hi ≤ 10000000) (hn : rs.length = n) (hb : n ≤ 10) (G : ¬ Good lo rs) :
    ∃ e : Int, e ≠ 0 ∧ ∀ {h : AH} {k sz k2 sz2 c : Nat} {op op2 : Bool}, h.sees 0 = true → h.get k = some (.cells ⟨zr, sz, op⟩) → h.get k2 = some (.cells ⟨rows eR rs, sz2, op2⟩) → Fc Try.prog 8 [shV lo hi (.slice (some ⟨k, 0, none⟩) 4 4), .slice (some ⟨k2, 0, none⟩) n c] h (badV e) h := by
  have up : ∀ e : Int, (∀ c, Fc Try.prog 8 [shV lo hi (s1 4 4), s2 n c] (Hp 3 (RM rs)) (badV e) (Hp 3 (RM rs))) → ∀ {h : AH} {k sz k2 sz2 c : Nat} {op op2 : Bool}, h.sees 0 = true → h.get k = some (.cells ⟨zr, sz, op⟩) → h.get k2 = some (.cells ⟨rows eR rs, sz2, op2⟩) → Fc Try.prog 8 [shV lo hi (.slice (some ⟨k, 0, none⟩) 4 4), .slice (some ⟨k2, 0, none⟩) n c] h (badV e) h := fun e F h k sz k2 sz2 c op op2 h0 hg hg2 =>
    Fc.lift2o (n := 4) (os := []) (mk := fun ss => .agg ⟨[I6 2, I6 2, I6 lo, I6 hi] ++ ss.take 1⟩ :: ([] ++ ss.drop 1 ++ [])) (mkv := fun _ => badV e) (F c) (MkL.ag2 rfl rfl rfl) (MkV.const rfl) rfl (rows_no (f := eR) rs) (fun o ho => by cases ho) h0 hg hg2
  cases hx : rs.any badS with
  | true => exact ⟨2, by decide, fun h0 hg hg2 => up 2 (fun c => removeA_c h1 h2 h3 hn hb hx) h0 hg hg2⟩
  | false =>
    by_cases hs : ∀ j, j + 1 < n → (nth rs j).k ≤ (nth rs (j + 1)).k
    · have hlow : lo - pH (am rs) n < 0 := by
        by_cases h : lo - pH (am rs) n < 0
        · exact h
        · exact absurd ⟨hx, by rw [hn]; exact hs, by rw [hn]; omega⟩ G
      exact ⟨91, by decide, fun h0 hg hg2 => up 91 (fun c => remove_c (os := []) h1 h2 h3 hn hb hx hs (fun _ => ⟨rfl, rfl⟩) (fun h => absurd hlow h)) h0 hg hg2⟩
    · exact ⟨9, by decide, fun h0 hg hg2 => up 9 (fun c => removeB_c h1 h2 h3 hn hb hx hs) h0 hg hg2⟩
end
end Go.Proofs.Ytjfgbdmdnejhdaa
