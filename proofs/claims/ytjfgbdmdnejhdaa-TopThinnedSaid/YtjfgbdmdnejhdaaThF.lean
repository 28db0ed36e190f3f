/-
  Chapter 9 at the top: the law TopThinned, by names: the slices one by one.
-/
import Derived.Test.YtjfgbdmdnejhdaaThE
import Derived.Test.YtjfgbdmdnejhdaaFitZ0
import Derived.Test.YtjfgbdmdnejhdaaThKv
set_option linter.unusedSimpArgs false
set_option linter.unusedVariables false
namespace Go.Proofs.Ytjfgbdmdnejhdaa
open Go.RowKit Go.Vm
set_option maxRecDepth 100000
/-- A step and its spread. -/
def eS (x : Rm × Int) : List Value := [.int .i64 x.1.k, .int .i64 x.1.lo, .int .i64 x.1.hi, .int .i64 x.2]
instance flS : FlatE eS 4 := ⟨fun _ => rfl, fun _ => rfl, fun _ => rfl⟩
abbrev rsO (ss : List (Rm × Int)) : List Rm := ss.map (·.1)
theorem takeS {ss : List (Rm × Int)} {i : Nat} (hi : i < ss.length) : takeC (rows eS ss) (i * 4) 4 = some [.int .i64 (nth (rsO ss) i).k, .int .i64 (nth (rsO ss) i).lo, .int .i64 (nth (rsO ss) i).hi, .int .i64 (nth ss i).2] := by
  rw [rows_takeC (f := eS) hi]
  have : nth (rsO ss) i = (nth ss i).1 := by
    unfold nth
    rw [List.getD_eq_getElem?_getD, List.getD_eq_getElem?_getD, List.getElem?_map, List.getElem?_eq_getElem hi]
    rfl
  rw [this]
  rfl
theorem eq2_same (a b : Int) : cellsEq [false, false] [.int .i64 a, .int .i64 b] [.int .i64 a, .int .i64 b] = some true := by simp [cellsEq, cellEq]
def tknF (t : List Int) (rs : List Rm) : Nat → Int
  | 0 => 0
  | k + 1 => tknF t rs k + atF (nth rs k).lo (nth rs k).hi (plF t k)
theorem tkn_bd {t : List Int} {rs : List Rm} (ht : ∀ x ∈ t, 0 ≤ x ∧ x ≤ 255) (h : rs.any badS = false) : ∀ k, k ≤ rs.length → pL (am rs) k ≤ tknF t rs k ∧ tknF t rs k ≤ pH (am rs) k
  | 0, _ => ⟨Int.le_refl _, Int.le_refl _⟩
  | k + 1, hk => by
    have ih := tkn_bd ht h k (by omega)
    have b := okRm h (show k < rs.length by omega)
    have e := nth_am (rs := rs) (i := k) (by omega)
    have p := plF_bd ht k
    have q := atF_bd (lo := (nth rs k).lo) (hi := (nth rs k).hi) (by omega) p.1 p.2
    show pL (am rs) k + (nth (am rs) k).1 ≤ tknF t rs k + _ ∧ tknF t rs k + _ ≤ pH (am rs) k + (nth (am rs) k).2
    rw [e]
    simp only
    omega
theorem am_ok {rs : List Rm} (h : rs.any badS = false) : (am rs).any badR = false := by
  rw [List.any_eq_false]
  intro x hx
  obtain ⟨r, hr, rfl⟩ := List.mem_map.1 hx
  have := List.any_eq_false.1 h r hr
  simp only [badS, outR, Bool.or_eq_true, decide_eq_true_eq, not_or] at this
  rw [bad_no (by omega) (by omega) (by omega)]
  decide
theorem am_sum {rs : List Rm} (h : rs.any badS = false) (hl : rs.length ≤ 10) : sumOK (am rs) rs.length := fun k hk => by
  have := sums_bd h k hk
  omega
theorem pairs_rows (a b : List Int) : ∀ m, ∃ zs : List (Int × Int), zs.length = m ∧ pairs a b m = rows eII zs ∧ ∀ i, i < m → nth zs i = (nth a i, nth b i)
  | 0 => ⟨[], rfl, rfl, fun i h => by omega⟩
  | m + 1 => by
    obtain ⟨zs, h1, h2, h3⟩ := pairs_rows a b m
    refine ⟨zs ++ [(nth a m, nth b m)], by simp [h1], ?_, fun i hi => ?_⟩
    · show pairs a b m ++ _ = _
      rw [h2, rows_append]; rfl
    · unfold nth at h3 ⊢
      rw [List.getD_eq_getElem?_getD]
      by_cases hm : i < m
      · rw [List.getElem?_append_left (by omega), ← List.getD_eq_getElem?_getD]; exact h3 i hm
      · obtain rfl : i = m := by omega
        rw [List.getElem?_append_right (by omega), h1, Nat.sub_self]; rfl
theorem tk4_12 (a b c d : Value) : takeC [a, b, c, d] 1 2 = some [b, c] := rfl
theorem tk2_02 (a b : Value) : takeC [a, b] 0 2 = some [a, b] := rfl
theorem tk5_22 (z0 z1 z2 z3 z4 : Value) : List.take 2 (List.drop 2 [z0, z1, z2, z3, z4]) = [z2, z3] := rfl
theorem tk5_c (z0 z1 z2 z3 z4 : Value) : takeC [z0, z1, z2, z3, z4] 2 2 = some [z2, z3] := rfl
theorem toNat4 : Int.toNat 4 = 4 := rfl
theorem rep4 : (List.replicate 4 [I6 0, I6 0]).flatten = zr := rfl
theorem w5_22 (z0 z1 z2 z3 z4 a b : Value) : writeAt [z0, z1, z2, z3, z4] 2 [a, b] = [z0, z1, a, b, z4] := rfl
/- boule/bouletop.TopThinned · slots 188 · names 0:c 1:length 2:steps 3:c 4:length 5:steps 7:x 8:e 9:p 10:ok 11:i 12:s 13:plain 14:amounts 15:taken 16:k 17:r 18:left 19:e 20:k 21:sum 22:f 23:want 24:g 25:t 26:h · results [6] -/
def ir3_r0 : IC := .reg [⟨some 3, none, false, .box (.t 0)⟩,
  ⟨some 6, none, false, .mv (.k (.bool false))⟩] (some [1, 2, 3])
def ir3_r1 : IC := .reg [⟨some 27, none, false, .fad 5 (.t 3)⟩,
  ⟨some 28, none, false, .fad 1 (.t 27)⟩,
  ⟨some 29, none, false, .ldc (.t 28)⟩,
  ⟨some 30, none, false, .cmp .gtr (.t 29) (.k (.int .i64 40))⟩,
  ⟨some 31, none, false, .mv (.t 30)⟩,
  ⟨some 32, some (31, false), false, .mv (.t 2)⟩,
  ⟨some 33, some (31, false), false, .len (.t 32)⟩,
  ⟨some 34, some (31, false), false, .cmp .gtr (.t 33) (.k (.int .i64 10))⟩,
  ⟨some 35, none, false, .pick (.t 31) (.k (.bool true)) (.t 34)⟩] (some [1, 2, 3, 35])
def ir3_r2 : IC := .reg [⟨some 36, none, false, .call (.f 4) []⟩,
  ⟨some 6, none, false, .mv (.t 36)⟩] (some [6])
def ir3_1 : IC := .seq ir3_r2 .ret
def ir3_2 : IC := .cond (.t 35) ir3_1 .skip
def ir3_3 : IC := .seq ir3_r1 ir3_2
def ir3_r3 : IC := .reg [⟨some 38, none, false, .fad 0 (.t 3)⟩,
  ⟨some 39, none, false, .lda 5 (.t 38)⟩,
  ⟨some 40, none, false, .fad 5 (.t 3)⟩,
  ⟨some 41, none, false, .lda 5 (.t 40)⟩,
  ⟨some 42, none, false, .mv (.t 1)⟩,
  ⟨some 43, none, false, .call (.f 5) [(.t 39), (.t 41), (.t 42)]⟩,
  ⟨some 37, none, false, .mv (.t 43)⟩,
  ⟨some 44, none, false, .ext (.t 37) 0⟩,
  ⟨some 45, none, false, .ext (.t 37) 1⟩,
  ⟨some 7, none, false, .alloc [(.slice none 0 0), (.int .i64 0), (.int .i64 0), (.int .i64 0), (.int .i64 0), (.int .i64 0), (.int .i64 0), (.int .u8 0)]⟩,
  ⟨none, none, false, .st 8 (.t 7) (.t 44)⟩,
  ⟨some 8, none, false, .mv (.t 45)⟩] (some [1, 2, 3, 7, 8])
def ir3_r4 : IC := .reg [⟨some 47, none, false, .lda 11 (.t 3)⟩,
  ⟨some 48, none, false, .mv (.t 1)⟩,
  ⟨some 49, none, false, .call (.f 6) [(.t 47), (.t 48)]⟩,
  ⟨some 46, none, false, .mv (.t 49)⟩,
  ⟨some 50, none, false, .ext (.t 46) 0⟩,
  ⟨some 51, none, false, .ext (.t 46) 1⟩,
  ⟨some 9, none, false, .alloc [(.slice none 0 0), (.slice none 0 0), (.int .i64 0), (.int .i64 0)]⟩,
  ⟨none, none, false, .st 4 (.t 9) (.t 50)⟩,
  ⟨some 10, none, false, .mv (.t 51)⟩] (some [2, 3, 7, 8, 9, 10])
def ir3_r5 : IC := .reg [⟨some 52, none, false, .mv (.t 8)⟩,
  ⟨some 53, none, false, .cmp .neq (.t 52) (.k (.int .i64 0))⟩,
  ⟨some 54, none, false, .mv (.t 53)⟩,
  ⟨some 55, some (54, false), false, .mv (.t 10)⟩,
  ⟨some 56, some (54, false), false, .not (.t 55)⟩,
  ⟨some 57, none, false, .pick (.t 54) (.k (.bool true)) (.t 56)⟩] (some [2, 3, 7, 8, 9, 57])
def ir3_r6 : IC := .reg [⟨some 58, none, false, .mv (.t 8)⟩,
  ⟨some 59, none, false, .cmp .neq (.t 58) (.k (.int .i64 0))⟩,
  ⟨some 60, none, false, .mv (.t 59)⟩,
  ⟨some 61, some (60, true), false, .call (.f 4) []⟩,
  ⟨some 62, none, false, .pick (.t 60) (.t 61) (.k (.bool false))⟩,
  ⟨some 6, none, false, .mv (.t 62)⟩] (some [6])
def ir3_4 : IC := .seq ir3_r6 .ret
def ir3_5 : IC := .cond (.t 57) ir3_4 .skip
def ir3_6 : IC := .seq ir3_r5 ir3_5
def ir3_r7 : IC := .reg [⟨some 63, none, false, .fad 0 (.t 9)⟩,
  ⟨some 64, none, false, .ldc (.t 63)⟩,
  ⟨some 65, none, false, .len (.t 64)⟩,
  ⟨some 66, none, false, .fad 0 (.t 7)⟩,
  ⟨some 67, none, false, .ldc (.t 66)⟩,
  ⟨some 68, none, false, .len (.t 67)⟩,
  ⟨some 69, none, false, .cmp .neq (.t 65) (.t 68)⟩] (some [2, 3, 7, 9, 69])
def ir3_r8 : IC := .reg [⟨some 6, none, false, .mv (.k (.bool false))⟩] (some [6])
def ir3_7 : IC := .seq ir3_r8 .ret
def ir3_8 : IC := .cond (.t 69) ir3_7 .skip
def ir3_9 : IC := .seq ir3_r7 ir3_8
def ir3_r9 : IC := .reg [⟨some 11, none, false, .mv (.k (.int .i64 0))⟩] (some [2, 3, 7, 9, 11])
def ir3_r10 : IC := .reg [⟨some 70, none, false, .mv (.t 11)⟩,
  ⟨some 71, none, false, .fad 0 (.t 7)⟩,
  ⟨some 72, none, false, .ldc (.t 71)⟩,
  ⟨some 73, none, false, .len (.t 72)⟩,
  ⟨some 74, none, false, .cmp .lss (.t 70) (.t 73)⟩] (some [2, 3, 7, 9, 11, 74])
def ir3_10 : IC := .cond (.t 74) .skip (.exit 0)
def ir3_11 : IC := .seq ir3_r10 ir3_10
def ir3_r12 : IC := .draw [(⟨some 77, none, false, .fad 0 (.t 7)⟩, false, 0, 0),
  (⟨some 78, none, false, .ldc (.t 77)⟩, false, 1, 1),
  (⟨some 79, none, false, .mv (.t 11)⟩, false, 0, 0),
  (⟨some 80, none, false, .iad 2 (.t 78) (.t 79)⟩, false, 7, 0),
  (⟨some 81, none, false, .lda 2 (.t 80)⟩, false, 15, 1),
  (⟨some 82, none, false, .mks 2 [(.int .i64 0), (.int .i64 0)] (.k (.int .i64 4)) (.k (.int .i64 4))⟩, false, 0, 16),
  (⟨some 83, none, false, .bld [(.int .i64 0), (.int .i64 0), (.int .i64 0), (.int .i64 0), (.slice none 0 0)] [(0, 1, (.k (.int .i64 2))), (1, 1, (.k (.int .i64 2))), (2, 2, (.t 81)), (4, 1, (.t 82))]⟩, false, 63, 0),
  (⟨some 12, none, false, .alloc [(.int .i64 0), (.int .i64 0), (.int .i64 0), (.int .i64 0), (.slice none 0 0)]⟩, false, 0, 16),
  (⟨none, none, false, .st 5 (.t 12) (.t 83)⟩, true, 255, 0)] (some [2, 3, 7, 9, 11, 12])
def ir3_r13 : IC := .reg [⟨some 84, none, false, .lda 5 (.t 12)⟩,
  ⟨some 85, none, false, .call (.f 7) [(.t 84)]⟩,
  ⟨some 86, none, false, .cmp .neq (.t 85) (.k (.int .i64 0))⟩] (some [2, 3, 7, 9, 11, 12, 86])
def ir3_12 : IC := .cond (.t 86) (.exit 1) .skip
def ir3_13 : IC := .seq ir3_r13 ir3_12
def ir3_r14 : IC := .reg [⟨some 87, none, false, .bsl 4 0 [] []⟩,
  ⟨some 88, none, false, .bsl 2 0 [] []⟩,
  ⟨some 13, none, false, .mv (.t 87)⟩,
  ⟨some 14, none, false, .mv (.t 88)⟩,
  ⟨some 15, none, false, .mv (.k (.int .i64 0))⟩] (some [2, 3, 7, 9, 11, 12, 13, 14, 15])
def ir3_r15 : IC := .reg [⟨some 16, none, false, .mv (.k (.int .i64 0))⟩] (some [2, 3, 7, 9, 11, 12, 13, 14, 15, 16])
def ir3_r16 : IC := .reg [⟨some 89, none, false, .mv (.t 16)⟩,
  ⟨some 90, none, false, .mv (.t 2)⟩,
  ⟨some 91, none, false, .len (.t 90)⟩,
  ⟨some 92, none, false, .cmp .lss (.t 89) (.t 91)⟩] (some [2, 3, 7, 9, 11, 12, 13, 14, 15, 16, 92])
def ir3_14 : IC := .cond (.t 92) .skip (.exit 2)
def ir3_15 : IC := .seq ir3_r16 ir3_14
def ir3_r18 : IC := .reg [⟨some 95, none, false, .mv (.t 2)⟩,
  ⟨some 96, none, false, .mv (.t 16)⟩,
  ⟨some 97, none, false, .iad 4 (.t 95) (.t 96)⟩,
  ⟨some 98, none, false, .lda 4 (.t 97)⟩,
  ⟨some 17, none, false, .alloc [(.int .i64 0), (.int .i64 0), (.int .i64 0), (.int .i64 0)]⟩,
  ⟨none, none, false, .st 4 (.t 17) (.t 98)⟩] (some [2, 3, 7, 9, 11, 12, 13, 14, 15, 16, 17])
def ir3_r19 : IC := .reg [⟨some 99, none, false, .fad 3 (.t 17)⟩,
  ⟨none, none, false, .st 1 (.t 99) (.k (.int .i64 0))⟩] (some [2, 3, 7, 9, 11, 12, 13, 14, 15, 16, 17])
def ir3_r20 : IC := .draw [(⟨some 100, none, false, .mv (.t 13)⟩, false, 0, 0),
  (⟨some 101, none, false, .lda 4 (.t 17)⟩, false, 0, 265),
  (⟨some 102, none, false, .bsl 4 1 [(.int .i64 0), (.int .i64 0), (.int .i64 0), (.int .i64 0)] [(0, (.t 101))]⟩, false, 2, 265),
  (⟨some 103, none, false, .app 4 32 (.t 100) (.t 102)⟩, false, 7, 265),
  (⟨some 104, none, false, .mv (.t 14)⟩, false, 0, 0),
  (⟨some 105, none, false, .fad 1 (.t 17)⟩, false, 0, 0),
  (⟨some 106, none, false, .lda 2 (.t 105)⟩, false, 32, 272),
  (⟨some 107, none, false, .bsl 2 1 [(.int .i64 0), (.int .i64 0)] [(0, (.t 106))]⟩, false, 96, 272),
  (⟨some 108, none, false, .app 2 16 (.t 104) (.t 107)⟩, true, 255, 0),
  (⟨some 13, none, false, .mv (.t 103)⟩, false, 511, 0),
  (⟨some 14, none, false, .mv (.t 108)⟩, false, 1023, 0)] (some [2, 3, 7, 9, 11, 12, 13, 14, 15, 16])
def ir3_16 : IC := .seq ir3_r19 ir3_r20
def ir3_17 : IC := .seq ir3_r18 ir3_16
def ir3_18 : IC := .block 3 ir3_17
def ir3_r17 : IC := .reg [⟨some 93, none, false, .mv (.t 16)⟩,
  ⟨some 94, none, false, .ar .add (.t 93) (.k (.int .i64 1))⟩,
  ⟨some 16, none, false, .mv (.t 94)⟩] (some [2, 3, 7, 9, 11, 12, 13, 14, 15, 16])
def ir3_19 : IC := .seq ir3_18 ir3_r17
def ir3_20 : IC := .seq ir3_15 ir3_19
def ir3_21 : IC := .loop ir3_20
def ir3_22 : IC := .block 2 ir3_21
def ir3_23 : IC := .seq ir3_r15 ir3_22
def ir3_r21 : IC := .reg [⟨some 110, none, false, .lda 5 (.t 12)⟩,
  ⟨some 111, none, false, .mv (.t 13)⟩,
  ⟨some 112, none, false, .call (.f 8) [(.t 110), (.t 111)]⟩,
  ⟨some 109, none, false, .mv (.t 112)⟩,
  ⟨some 113, none, false, .ext (.t 109) 0⟩,
  ⟨some 114, none, false, .ext (.t 109) 1⟩,
  ⟨some 18, none, false, .alloc [(.int .i64 0), (.int .i64 0), (.int .i64 0), (.int .i64 0), (.slice none 0 0)]⟩,
  ⟨none, none, false, .st 5 (.t 18) (.t 113)⟩,
  ⟨some 19, none, false, .mv (.t 114)⟩] (some [2, 3, 7, 9, 11, 14, 15, 18, 19])
def ir3_r22 : IC := .reg [⟨some 115, none, false, .mv (.t 19)⟩,
  ⟨some 116, none, false, .cmp .neq (.t 115) (.k (.int .i64 0))⟩] (some [2, 3, 7, 9, 11, 14, 15, 18, 116])
def ir3_24 : IC := .cond (.t 116) (.exit 1) .skip
def ir3_25 : IC := .seq ir3_r22 ir3_24
def ir3_r23 : IC := .reg [⟨some 20, none, false, .mv (.k (.int .i64 0))⟩] (some [2, 3, 7, 9, 11, 14, 15, 18, 20])
def ir3_r24 : IC := .reg [⟨some 117, none, false, .mv (.t 20)⟩,
  ⟨some 118, none, false, .mv (.t 14)⟩,
  ⟨some 119, none, false, .len (.t 118)⟩,
  ⟨some 120, none, false, .cmp .lss (.t 117) (.t 119)⟩] (some [2, 3, 7, 9, 11, 14, 15, 18, 20, 120])
def ir3_26 : IC := .cond (.t 120) .skip (.exit 4)
def ir3_27 : IC := .seq ir3_r24 ir3_26
def ir3_r26 : IC := .draw [(⟨some 123, none, false, .mv (.t 15)⟩, false, 0, 0),
  (⟨some 124, none, false, .mv (.t 14)⟩, false, 0, 0),
  (⟨some 125, none, false, .mv (.t 20)⟩, false, 0, 0),
  (⟨some 126, none, false, .iad 2 (.t 124) (.t 125)⟩, false, 6, 0),
  (⟨some 127, none, false, .lda 2 (.t 126)⟩, false, 14, 1),
  (⟨some 128, none, false, .fad 10 (.t 3)⟩, false, 0, 0),
  (⟨some 129, none, false, .ldc (.t 128)⟩, false, 32, 15),
  (⟨some 130, none, false, .mv (.t 20)⟩, false, 0, 0),
  (⟨some 131, none, false, .call (.f 10) [(.t 129), (.t 130)]⟩, false, 224, 15),
  (⟨some 132, none, false, .call (.f 9) [(.t 127), (.t 131)]⟩, true, 510, 0),
  (⟨some 133, none, false, .ar .add (.t 123) (.t 132)⟩, false, 1023, 0),
  (⟨some 15, none, false, .mv (.t 133)⟩, false, 2047, 0)] (some [2, 3, 7, 9, 11, 14, 15, 18, 20])
def ir3_28 : IC := .block 5 ir3_r26
def ir3_r25 : IC := .reg [⟨some 121, none, false, .mv (.t 20)⟩,
  ⟨some 122, none, false, .ar .add (.t 121) (.k (.int .i64 1))⟩,
  ⟨some 20, none, false, .mv (.t 122)⟩] (some [2, 3, 7, 9, 11, 14, 15, 18, 20])
def ir3_29 : IC := .seq ir3_28 ir3_r25
def ir3_30 : IC := .seq ir3_27 ir3_29
def ir3_31 : IC := .loop ir3_30
def ir3_32 : IC := .block 4 ir3_31
def ir3_33 : IC := .seq ir3_r23 ir3_32
def ir3_r27 : IC := .reg [⟨some 135, none, false, .mv (.t 14)⟩,
  ⟨some 136, none, false, .call (.f 11) [(.t 135)]⟩,
  ⟨some 134, none, false, .mv (.t 136)⟩,
  ⟨some 137, none, false, .ext (.t 134) 0⟩,
  ⟨some 138, none, false, .ext (.t 134) 1⟩,
  ⟨some 21, none, false, .alloc [(.int .i64 0), (.int .i64 0)]⟩,
  ⟨none, none, false, .st 2 (.t 21) (.t 137)⟩,
  ⟨some 22, none, false, .mv (.t 138)⟩] (some [2, 3, 7, 9, 11, 15, 18, 21, 22])
def ir3_r28 : IC := .draw [(⟨some 140, none, false, .fad 0 (.t 7)⟩, false, 0, 0),
  (⟨some 141, none, false, .ldc (.t 140)⟩, false, 1, 1),
  (⟨some 142, none, false, .mv (.t 11)⟩, false, 0, 0),
  (⟨some 143, none, false, .iad 2 (.t 141) (.t 142)⟩, false, 7, 0),
  (⟨some 144, none, false, .lda 2 (.t 143)⟩, false, 15, 1),
  (⟨some 145, none, false, .lda 2 (.t 21)⟩, false, 0, 16),
  (⟨some 146, none, false, .call (.f 12) [(.t 144), (.t 145)]⟩, false, 63, 1),
  (⟨some 139, none, false, .mv (.t 146)⟩, false, 127, 0),
  (⟨some 147, none, false, .ext (.t 139) 0⟩, false, 255, 0),
  (⟨some 148, none, false, .ext (.t 139) 1⟩, false, 255, 0),
  (⟨some 23, none, false, .alloc [(.int .i64 0), (.int .i64 0)]⟩, false, 0, 64),
  (⟨none, none, false, .st 2 (.t 23) (.t 147)⟩, true, 1535, 0),
  (⟨some 24, none, false, .mv (.t 148)⟩, false, 4095, 0)] (some [2, 3, 7, 9, 11, 15, 18, 22, 23, 24])
def ir3_r29 : IC := .reg [⟨some 150, none, false, .lda 5 (.t 18)⟩,
  ⟨some 151, none, false, .call (.f 13) [(.t 150)]⟩,
  ⟨some 149, none, false, .mv (.t 151)⟩,
  ⟨some 152, none, false, .ext (.t 149) 0⟩,
  ⟨some 153, none, false, .ext (.t 149) 1⟩,
  ⟨some 25, none, false, .alloc [(.int .i64 0), (.int .i64 0)]⟩,
  ⟨none, none, false, .st 2 (.t 25) (.t 152)⟩,
  ⟨some 26, none, false, .mv (.t 153)⟩] (some [2, 3, 7, 9, 11, 15, 18, 22, 23, 24, 25, 26])
def ir3_r30 : IC := .draw [(⟨some 154, none, false, .mv (.t 22)⟩, false, 0, 0),
  (⟨some 155, none, false, .cmp .neq (.t 154) (.k (.int .i64 0))⟩, false, 1, 0),
  (⟨some 156, none, false, .mv (.t 155)⟩, false, 3, 0),
  (⟨some 157, some (156, false), false, .mv (.t 24)⟩, false, 7, 0),
  (⟨some 158, some (156, false), false, .cmp .neq (.t 157) (.k (.int .i64 0))⟩, false, 15, 0),
  (⟨some 159, none, false, .pick (.t 156) (.k (.bool true)) (.t 158)⟩, false, 31, 0),
  (⟨some 160, none, false, .mv (.t 159)⟩, false, 63, 0),
  (⟨some 161, some (160, false), false, .mv (.t 26)⟩, false, 127, 0),
  (⟨some 162, some (160, false), false, .cmp .neq (.t 161) (.k (.int .i64 0))⟩, false, 255, 0),
  (⟨some 163, none, false, .pick (.t 160) (.k (.bool true)) (.t 162)⟩, false, 511, 0),
  (⟨some 164, none, false, .mv (.t 163)⟩, false, 1023, 0),
  (⟨some 165, some (164, false), false, .lda 2 (.t 25)⟩, false, 2047, 1),
  (⟨some 166, some (164, false), false, .lda 2 (.t 23)⟩, false, 2047, 2048),
  (⟨some 167, some (164, false), false, .eqs true [false, false] (.t 165) (.t 166)⟩, false, 8191, 0),
  (⟨some 168, none, false, .pick (.t 164) (.k (.bool true)) (.t 167)⟩, false, 16383, 0),
  (⟨some 169, none, false, .mv (.t 168)⟩, false, 32767, 0),
  (⟨some 170, some (169, false), false, .fad 2 (.t 18)⟩, false, 65535, 0),
  (⟨some 171, some (169, false), false, .lda 2 (.t 170)⟩, false, 131071, 1),
  (⟨some 172, some (169, false), false, .lda 2 (.t 23)⟩, false, 65535, 131072),
  (⟨some 173, some (169, false), false, .eqs true [false, false] (.t 171) (.t 172)⟩, false, 524287, 0),
  (⟨some 174, none, false, .pick (.t 169) (.k (.bool true)) (.t 173)⟩, false, 1048575, 0),
  (⟨some 175, none, false, .mv (.t 174)⟩, false, 2097151, 0),
  (⟨some 176, some (175, false), false, .fad 0 (.t 9)⟩, false, 4194303, 0),
  (⟨some 177, some (175, false), false, .ldc (.t 176)⟩, false, 8388607, 1),
  (⟨some 178, some (175, false), false, .mv (.t 11)⟩, false, 4194303, 0),
  (⟨some 179, some (175, false), false, .iad 1 (.t 177) (.t 178)⟩, false, 33554431, 0),
  (⟨some 180, some (175, false), false, .ldc (.t 179)⟩, false, 67108863, 1),
  (⟨some 181, some (175, false), false, .mv (.t 15)⟩, false, 4194303, 0),
  (⟨some 182, some (175, false), false, .ar .sub (.t 180) (.t 181)⟩, false, 268435455, 0),
  (⟨some 183, some (175, false), false, .lda 2 (.t 25)⟩, false, 4194303, 67108864),
  (⟨some 184, some (175, false), false, .call (.f 14) [(.t 182), (.t 183)]⟩, true, 1073741823, 0),
  (⟨some 185, some (175, false), false, .not (.t 184)⟩, false, 2147483647, 0),
  (⟨some 186, none, false, .pick (.t 175) (.k (.bool true)) (.t 185)⟩, false, 4294967295, 0)] (some [2, 3, 7, 9, 11, 186])
def ir3_r31 : IC := .reg [⟨some 6, none, false, .mv (.k (.bool false))⟩] (some [6])
def ir3_34 : IC := .seq ir3_r31 .ret
def ir3_35 : IC := .cond (.t 186) ir3_34 .skip
def ir3_36 : IC := .seq ir3_r30 ir3_35
def ir3_37 : IC := .seq ir3_r29 ir3_36
def ir3_38 : IC := .seq ir3_r28 ir3_37
def ir3_39 : IC := .seq ir3_r27 ir3_38
def ir3_40 : IC := .seq ir3_33 ir3_39
def ir3_41 : IC := .seq ir3_25 ir3_40
def ir3_42 : IC := .seq ir3_r21 ir3_41
def ir3_43 : IC := .seq ir3_23 ir3_42
def ir3_44 : IC := .seq ir3_r14 ir3_43
def ir3_45 : IC := .seq ir3_13 ir3_44
def ir3_46 : IC := .seq ir3_r12 ir3_45
def ir3_47 : IC := .block 1 ir3_46
def ir3_r11 : IC := .reg [⟨some 75, none, false, .mv (.t 11)⟩,
  ⟨some 76, none, false, .ar .add (.t 75) (.k (.int .i64 1))⟩,
  ⟨some 11, none, false, .mv (.t 76)⟩] (some [2, 3, 7, 9, 11])
def ir3_48 : IC := .seq ir3_47 ir3_r11
def ir3_49 : IC := .seq ir3_11 ir3_48
def ir3_50 : IC := .loop ir3_49
def ir3_51 : IC := .block 0 ir3_50
def ir3_52 : IC := .seq ir3_r9 ir3_51
def ir3_r32 : IC := .reg [⟨some 187, none, false, .call (.f 4) []⟩,
  ⟨some 6, none, false, .mv (.t 187)⟩] (some [6])
def ir3_53 : IC := .seq ir3_r32 .ret
def ir3_54 : IC := .seq ir3_52 ir3_53
def ir3_55 : IC := .seq ir3_9 ir3_54
def ir3_56 : IC := .seq ir3_6 ir3_55
def ir3_57 : IC := .seq ir3_r4 ir3_56
def ir3_58 : IC := .seq ir3_r3 ir3_57
def ir3_59 : IC := .seq ir3_3 ir3_58
def ir3_60 : IC := .seq ir3_r0 ir3_59
def ir3 : IC := ir3_60
theorem fn3 : FnIs Try.prog 3 ir3 188 [.tmp 6] := ⟨Try.f3, Try.f3.body.getD .skip, Try.func3, by kernel_rfl, by kernel_rfl, by kernel_rfl, by kernel_rfl⟩
section
variable {c : Wb} {t : List Int} {ss : List (Rm × Int)} {nt ct n cs m n0 : Nat} {zs : List (Int × Int)} {S K : List Int} {a1 a2 a3 a4 a5 a6 a7 top re : Int}
set_option maxHeartbeats 4000000 in
theorem thin_loop (ht : ∀ x ∈ t, 0 ≤ x ∧ x ≤ 255) (hnt : t.length = nt) (hn : ss.length = n) (hb : n ≤ 10) (hm : m ≤ 2000) (hz : zs.length = m) (hS : S.length = m)
    (hb1 : ∀ i, i < m → 0 ≤ (nth zs i).1 ∧ (nth zs i).1 ≤ nth S i ∧ nth S i ≤ (nth zs i).2 ∧ (nth zs i).2 ≤ 10000000) :
    ITri Try.prog 188 none 3 ir3_54 [(2, s2 n cs), (3, pt 3), (7, pt 5), (9, pt 8)] [] (Hp 3 [none, some (.cells ⟨rows eY t, 0, false⟩), some (.cells ⟨rows eS ss, 0, false⟩), some (.cells ⟨[.int .i64 c.dl, .int .i64 c.dh, .int .i64 c.wl, .int .i64 c.wh, .int .i64 c.le, .int .i64 c.p, .int .i64 c.g, .int .i64 c.st, .int .i64 c.sl, .int .i64 c.sh, s1 nt ct], 1, false⟩), some (.cells ⟨rows eII zs, 2, true⟩), some (.cells ⟨[.slice (some ⟨4, 0, none⟩) m openB, .int .i64 a1, .int .i64 a2, .int .i64 a3, .int .i64 a4, .int .i64 a5, .int .i64 a6, .int .u8 a7], 1, false⟩), some (.cells ⟨rows eI S, 1, true⟩), some (.cells ⟨rows eI K, 1, true⟩), some (.cells ⟨[sO 6 m, sO 7 n0, .int .i64 top, .int .i64 re], 1, false⟩)]) (EndR Try.prog [.tmp 6] 3 [] (.bool true)) := by
  refine ITri.seq ?_
  refine ITri.seq ?_
  refine ITri.reg pok ?_; simp -implicitDefEqProofs (disch := first | decide | exact of_eq_true (eq_true rfl) | omega | assumption) only [ ↓vcD, vcE, ↓vcG, vcF, evs, evP, evB, intsOf, fillC, Value.cells, pt, Value.oneCell', reduceIte, reduceCtorEq, Nat.reduceEqDiff, Nat.reduceAdd, Nat.reduceMul, Nat.reduceLT, Nat.reduceBEq, Nat.reduceLeDiff, Nat.reduceSub] -- r9
  refine ITri.block ?_ -- 0
  refine ITri.loop (fun i : Nat => [(2, s2 n cs), (3, pt 3), (7, pt 5), (9, pt 8), (11, .int .i64 i)]) (fun _ => []) (fun i => Hp 3 [none, some (.cells ⟨rows eY t, 0, false⟩), some (.cells ⟨rows eS ss, 0, false⟩), some (.cells ⟨[.int .i64 c.dl, .int .i64 c.dh, .int .i64 c.wl, .int .i64 c.wh, .int .i64 c.le, .int .i64 c.p, .int .i64 c.g, .int .i64 c.st, .int .i64 c.sl, .int .i64 c.sh, s1 nt ct], 1, false⟩), some (.cells ⟨rows eII zs, 2, true⟩), some (.cells ⟨[.slice (some ⟨4, 0, none⟩) m openB, .int .i64 a1, .int .i64 a2, .int .i64 a3, .int .i64 a4, .int .i64 a5, .int .i64 a6, .int .u8 a7], 1, false⟩), some (.cells ⟨rows eI S, 1, true⟩), some (.cells ⟨rows eI K, 1, true⟩), some (.cells ⟨[sO 6 m, sO 7 n0, .int .i64 top, .int .i64 re], 1, false⟩)]) (fun i => i ≤ m) (fun i => m - i) 0 (Nat.zero_le _) (Wk.sub ⟨rfl, rfl, rfl, rfl, rfl, trivial⟩) fun i hi => ?_
  refine ITri.seq ?_
  refine ITri.seq ?_
  refine ITri.reg pok ?_; simp -implicitDefEqProofs (disch := first | decide | exact of_eq_true (eq_true rfl) | omega | assumption) only [ ↓vcD, vcE, ↓vcG, vcF, evs, evP, evB, intsOf, fillC, Value.cells, pt, Value.oneCell', reduceIte, reduceCtorEq, Nat.reduceEqDiff, Nat.reduceAdd, Nat.reduceMul, Nat.reduceLT, Nat.reduceBEq, Nat.reduceLeDiff, Nat.reduceSub] -- r10
  refine ITri.condD (by rfl) (fun h5 => ?_) (fun h5 => ?_) -- %74
  · have him : i < m := by omega
    have bd := hb1 i him
    have g1 := takeII (xs := zs) (i := i) (by omega)
    have g2 := getI (xs := S) (i := i) (by omega)
    have hi1 : (i : Int) + 1 = ((i + 1 : Nat) : Int) := by omega
    generalize (nth zs i).1 = a at *
    generalize (nth zs i).2 = b at *
    generalize nth S i = x at *
    refine ITri.skip ?_; simp only [SeqQ_normal, BlkQ_normal]
    refine ITri.seq ?_
    refine ITri.cut (fun _ : Unit => [(2, s2 n cs), (3, pt 3), (7, pt 5), (9, pt 8), (11, .int .i64 i)]) (fun _ => []) (fun _ => Hp 3 [none, some (.cells ⟨rows eY t, 0, false⟩), some (.cells ⟨rows eS ss, 0, false⟩), some (.cells ⟨[.int .i64 c.dl, .int .i64 c.dh, .int .i64 c.wl, .int .i64 c.wh, .int .i64 c.le, .int .i64 c.p, .int .i64 c.g, .int .i64 c.st, .int .i64 c.sl, .int .i64 c.sh, s1 nt ct], 1, false⟩), some (.cells ⟨rows eII zs, 2, true⟩), some (.cells ⟨[.slice (some ⟨4, 0, none⟩) m openB, .int .i64 a1, .int .i64 a2, .int .i64 a3, .int .i64 a4, .int .i64 a5, .int .i64 a6, .int .u8 a7], 1, false⟩), some (.cells ⟨rows eI S, 1, true⟩), some (.cells ⟨rows eI K, 1, true⟩), some (.cells ⟨[sO 6 m, sO 7 n0, .int .i64 top, .int .i64 re], 1, false⟩)]) (fun _ => True) ?_ (fun _ _ => ?_)
    · refine ITri.block ?_ -- 1
      refine ITri.seq ?_
      refine ITri.draw pok ?_; simp -implicitDefEqProofs (disch := first | decide | exact of_eq_true (eq_true rfl) | omega | assumption) only [g1, toNat4, rep4, w5_22, wr5,  ↓vcD, vcE, ↓vcG, vcF, evs, evP, evB, intsOf, fillC, Value.cells, pt, Value.oneCell', reduceIte, reduceCtorEq, Nat.reduceEqDiff, Nat.reduceAdd, Nat.reduceMul, Nat.reduceLT, Nat.reduceBEq, Nat.reduceLeDiff, Nat.reduceSub] -- r12
      refine ITri.seq ?_
      refine ITri.seq ?_
      refine ITri.reg pok ?_; simp -implicitDefEqProofs (disch := first | decide | exact of_eq_true (eq_true rfl) | omega | assumption) only [ ↓vcD, vcE, ↓vcG, vcF, evs, evP, evB, intsOf, fillC, Value.cells, pt, Value.oneCell', reduceIte, reduceCtorEq, Nat.reduceEqDiff, Nat.reduceAdd, Nat.reduceMul, Nat.reduceLT, Nat.reduceBEq, Nat.reduceLeDiff, Nat.reduceSub] -- r13
      refine ⟨_, _, sheet_f bd.1 (by omega) bd.2.2.2 (sees0 rfl (of_decide_eq_true rfl)) (get_hq rfl rfl), ?_⟩
      simp -implicitDefEqProofs (disch := first | decide | exact of_eq_true (eq_true rfl) | omega | assumption) only [decide_true, Bool.not_true,  ↓vcD, vcE, ↓vcG, vcF, evs, evP, evB, intsOf, fillC, Value.cells, pt, Value.oneCell', reduceIte, reduceCtorEq, Nat.reduceEqDiff, Nat.reduceAdd, Nat.reduceMul, Nat.reduceLT, Nat.reduceBEq, Nat.reduceLeDiff, Nat.reduceSub]
      refine ITri.cond (v := false) rfl (fun h => by cases h) (fun _ => ?_); refine ITri.skip ?_; simp only [SeqQ_normal, BlkQ_normal]
      refine ITri.seq ?_
      refine ITri.reg pok ?_; simp -implicitDefEqProofs (disch := first | decide | exact of_eq_true (eq_true rfl) | omega | assumption) only [ ↓vcD, vcE, ↓vcG, vcF, evs, evP, evB, intsOf, fillC, Value.cells, pt, Value.oneCell', reduceIte, reduceCtorEq, Nat.reduceEqDiff, Nat.reduceAdd, Nat.reduceMul, Nat.reduceLT, Nat.reduceBEq, Nat.reduceLeDiff, Nat.reduceSub] -- r14
      refine ITri.seq ?_
      refine ITri.seq ?_
      refine ITri.reg pok ?_; simp -implicitDefEqProofs (disch := first | decide | exact of_eq_true (eq_true rfl) | omega | assumption) only [ ↓vcD, vcE, ↓vcG, vcF, evs, evP, evB, intsOf, fillC, Value.cells, pt, Value.oneCell', reduceIte, reduceCtorEq, Nat.reduceEqDiff, Nat.reduceAdd, Nat.reduceMul, Nat.reduceLT, Nat.reduceBEq, Nat.reduceLeDiff, Nat.reduceSub] -- r15
      refine ITri.block ?_ -- 2
      refine ITri.loop (fun k : Nat => [(2, s2 n cs), (3, pt 3), (7, pt 5), (9, pt 8), (11, .int .i64 i), (12, pt 10), (13, .slice (some ⟨11, 0, none⟩) k openB), (14, .slice (some ⟨12, 0, none⟩) k openB), (15, .int .i64 0), (16, .int .i64 k)]) (fun _ => []) (fun k => Hp 3 [none, some (.cells ⟨rows eY t, 0, false⟩), some (.cells ⟨rows eS ss, 0, false⟩), some (.cells ⟨[.int .i64 c.dl, .int .i64 c.dh, .int .i64 c.wl, .int .i64 c.wh, .int .i64 c.le, .int .i64 c.p, .int .i64 c.g, .int .i64 c.st, .int .i64 c.sl, .int .i64 c.sh, s1 nt ct], 1, false⟩), some (.cells ⟨rows eII zs, 2, true⟩), some (.cells ⟨[.slice (some ⟨4, 0, none⟩) m openB, .int .i64 a1, .int .i64 a2, .int .i64 a3, .int .i64 a4, .int .i64 a5, .int .i64 a6, .int .u8 a7], 1, false⟩), some (.cells ⟨rows eI S, 1, true⟩), some (.cells ⟨rows eI K, 1, true⟩), some (.cells ⟨[sO 6 m, sO 7 n0, .int .i64 top, .int .i64 re], 1, false⟩), some (.cells ⟨zr, 2, false⟩), some (.cells ⟨[I6 2, I6 2, I6 a, I6 b, .slice (some ⟨9, 0, none⟩) 4 4], 1, false⟩), some (.cells ⟨rows eR ((rsO ss).take k), 4, true⟩), some (.cells ⟨rows eII ((am (rsO ss)).take k), 2, true⟩)]) (fun k => k ≤ n) (fun k => n - k) 0 (Nat.zero_le _) (Wk.gc [0, 1, 2, 3, 4, 5, 6, 7, 8, 9, 10, 11, 12] [(11, .room 0), (12, .room 0)] (of_decide_eq_true rfl) (of_decide_eq_true rfl) rfl rfl (of_decide_eq_true rfl) rfl rfl (by repeat (first | exact xiOK_nil | refine xiOK_cons (by first | trivial | exact roomOK _ (by decide)) ?_)) rfl (by simp -implicitDefEqProofs (disch := first | decide | exact of_eq_true (eq_true rfl) | omega | assumption) only [List.take_zero, rows_nil, objOK, sgL, xiL, objAt, nilO, OM, mvL, mv, mvS, okS, okP, mvL_rows, okML, okM, okML_rows, List.getElem?_cons_zero, Option.getD_some, implies_true, imp_self, ne_eq, and_self, true_or, or_true, Nat.zero_mul, Nat.sub_self, openB_self, ↓vcD, vcE, ↓vcG, vcF, evs, evP, evB, intsOf, fillC, Value.cells, pt, Value.oneCell', reduceIte, reduceCtorEq, Nat.reduceEqDiff, Nat.reduceAdd, Nat.reduceMul, Nat.reduceLT, Nat.reduceBEq, Nat.reduceLeDiff, Nat.reduceSub]) (by simp -implicitDefEqProofs (disch := first | decide | exact of_eq_true (eq_true rfl) | omega | assumption) only [List.take_zero, rows_nil, valOK, sgL, xiL, mv, mvA, mvL, mvS, okS, okP, okM, okMA, okML, Option.getD_some, implies_true, and_self, true_or, or_true, Int.natCast_add, Int.cast_ofNat_Int, Nat.zero_mul, Nat.sub_self, openB_self, ↓vcD, vcE, ↓vcG, vcF, evs, evP, evB, intsOf, fillC, Value.cells, pt, Value.oneCell', reduceIte, reduceCtorEq, Nat.reduceEqDiff, Nat.reduceAdd, Nat.reduceMul, Nat.reduceLT, Nat.reduceBEq, Nat.reduceLeDiff, Nat.reduceSub]) (fun _ h => by cases h) ⟨rfl, fun _ h => by cases h⟩) fun k hk => ?_
      refine ITri.seq ?_
      refine ITri.seq ?_
      refine ITri.reg pok ?_; simp -implicitDefEqProofs (disch := first | decide | exact of_eq_true (eq_true rfl) | omega | assumption) only [ ↓vcD, vcE, ↓vcG, vcF, evs, evP, evB, intsOf, fillC, Value.cells, pt, Value.oneCell', reduceIte, reduceCtorEq, Nat.reduceEqDiff, Nat.reduceAdd, Nat.reduceMul, Nat.reduceLT, Nat.reduceBEq, Nat.reduceLeDiff, Nat.reduceSub] -- r16
      refine ITri.condD (by rfl) (fun h8 => ?_) (fun h8 => ?_) -- %92
      · have hkn : k < n := by omega
        have g3 := takeS (ss := ss) (i := k) (by omega)
        have l1 : (rows eR ((rsO ss).take k)).length = k * 4 := by rw [rows_len (f := eR), List.length_take, List.length_map]; congr 1; omega
        have l2 : (rows eII ((am (rsO ss)).take k)).length = k * 2 := by rw [rows_len (f := eII), List.length_take, List.length_map, List.length_map]; congr 1; omega
        have e3 : rows eR ((rsO ss).take k) ++ [I6 (nth (rsO ss) k).k, I6 (nth (rsO ss) k).lo, I6 (nth (rsO ss) k).hi, I6 0] = rows eR ((rsO ss).take (k + 1)) := by
          rw [take_nth (by rw [List.length_map]; omega), rows_append, rows_one]; rfl
        have e4 : rows eII ((am (rsO ss)).take k) ++ [I6 (nth (rsO ss) k).lo, I6 (nth (rsO ss) k).hi] = rows eII ((am (rsO ss)).take (k + 1)) := by
          rw [take_nth (by rw [List.length_map, List.length_map]; omega), rows_append, rows_one, nth_am (by rw [List.length_map]; omega)]; rfl
        have hk1 : (k : Int) + 1 = ((k + 1 : Nat) : Int) := by omega
        refine ITri.skip ?_; simp only [SeqQ_normal, BlkQ_normal]
        refine ITri.seq ?_
        refine ITri.block ?_ -- 3
        refine ITri.seq ?_
        refine ITri.reg pok ?_; simp -implicitDefEqProofs (disch := first | decide | exact of_eq_true (eq_true rfl) | omega | assumption) only [g3,  ↓vcD, vcE, ↓vcG, vcF, evs, evP, evB, intsOf, fillC, Value.cells, pt, Value.oneCell', reduceIte, reduceCtorEq, Nat.reduceEqDiff, Nat.reduceAdd, Nat.reduceMul, Nat.reduceLT, Nat.reduceBEq, Nat.reduceLeDiff, Nat.reduceSub] -- r18
        refine ITri.seq ?_
        refine ITri.reg pok ?_; simp -implicitDefEqProofs (disch := first | decide | exact of_eq_true (eq_true rfl) | omega | assumption) only [ ↓vcD, vcE, ↓vcG, vcF, evs, evP, evB, intsOf, fillC, Value.cells, pt, Value.oneCell', reduceIte, reduceCtorEq, Nat.reduceEqDiff, Nat.reduceAdd, Nat.reduceMul, Nat.reduceLT, Nat.reduceBEq, Nat.reduceLeDiff, Nat.reduceSub] -- r19
        refine ITri.draw pok ?_; simp -implicitDefEqProofs (disch := first | decide | exact of_eq_true (eq_true rfl) | omega | assumption) only [l1, l2, tk4_12, tk2_02, wr22,  ↓vcD, vcE, ↓vcG, vcF, evs, evP, evB, intsOf, fillC, Value.cells, pt, Value.oneCell', reduceIte, reduceCtorEq, Nat.reduceEqDiff, Nat.reduceAdd, Nat.reduceMul, Nat.reduceLT, Nat.reduceBEq, Nat.reduceLeDiff, Nat.reduceSub] -- r20
        rw [e3, e4]
        refine ITri.reg pok ?_; simp -implicitDefEqProofs (disch := first | decide | exact of_eq_true (eq_true rfl) | omega | assumption) only [hk1,  ↓vcD, vcE, ↓vcG, vcF, evs, evP, evB, intsOf, fillC, Value.cells, pt, Value.oneCell', reduceIte, reduceCtorEq, Nat.reduceEqDiff, Nat.reduceAdd, Nat.reduceMul, Nat.reduceLT, Nat.reduceBEq, Nat.reduceLeDiff, Nat.reduceSub] -- r17
        exact LoopQ.next (k + 1) (by omega) (by omega) (Wk.gc [0, 1, 2, 3, 4, 5, 6, 7, 8, 9, 10, 15, 17] [] (of_decide_eq_true rfl) (of_decide_eq_true rfl) rfl rfl (of_decide_eq_true rfl) rfl rfl (by repeat (first | exact xiOK_nil | refine xiOK_cons (by first | trivial | exact roomOK _ (by decide)) ?_)) rfl (by simp -implicitDefEqProofs (disch := first | decide | exact of_eq_true (eq_true rfl) | omega | assumption) only [ objOK, sgL, xiL, objAt, nilO, OM, mvL, mv, mvS, okS, okP, mvL_rows, okML, okM, okML_rows, List.getElem?_cons_zero, Option.getD_some, implies_true, imp_self, ne_eq, and_self, true_or, or_true, Nat.zero_mul, Nat.sub_self, openB_self, ↓vcD, vcE, ↓vcG, vcF, evs, evP, evB, intsOf, fillC, Value.cells, pt, Value.oneCell', reduceIte, reduceCtorEq, Nat.reduceEqDiff, Nat.reduceAdd, Nat.reduceMul, Nat.reduceLT, Nat.reduceBEq, Nat.reduceLeDiff, Nat.reduceSub]) (by simp -implicitDefEqProofs (disch := first | decide | exact of_eq_true (eq_true rfl) | omega | assumption) only [ valOK, sgL, xiL, mv, mvA, mvL, mvS, okS, okP, okM, okMA, okML, Option.getD_some, implies_true, and_self, true_or, or_true, Int.natCast_add, Int.cast_ofNat_Int, Nat.zero_mul, Nat.sub_self, openB_self, ↓vcD, vcE, ↓vcG, vcF, evs, evP, evB, intsOf, fillC, Value.cells, pt, Value.oneCell', reduceIte, reduceCtorEq, Nat.reduceEqDiff, Nat.reduceAdd, Nat.reduceMul, Nat.reduceLT, Nat.reduceBEq, Nat.reduceLeDiff, Nat.reduceSub]) (fun _ h => by cases h) ⟨rfl, fun _ h => by cases h⟩)
      refine ITri.exit ?_; try simp -implicitDefEqProofs (disch := first | decide | exact of_eq_true (eq_true rfl) | omega | assumption) only [ ↓vcD, vcE, ↓vcG, vcF, evs, evP, evB, intsOf, fillC, Value.cells, pt, Value.oneCell', reduceIte, reduceCtorEq, Nat.reduceEqDiff, Nat.reduceAdd, Nat.reduceMul, Nat.reduceLT, Nat.reduceBEq, Nat.reduceLeDiff, Nat.reduceSub] -- exit 2
      obtain rfl : n = k := by omega
      have hrl : (rsO ss).length = n := by rw [List.length_map]; exact hn
      rw [List.take_of_length_le (show (rsO ss).length ≤ n by omega), List.take_of_length_le (show (am (rsO ss)).length ≤ n by rw [List.length_map]; omega)]
      generalize rsO ss = rs at *
      refine ITri.seq ?_
      by_cases G : Good a rs
      rotate_left
      · obtain ⟨e, he, F⟩ := removeE_f (n := n) bd.1 (show a ≤ b by omega) bd.2.2.2 hrl hb G
        refine ITri.reg pok ?_; simp -implicitDefEqProofs (disch := first | decide | exact of_eq_true (eq_true rfl) | omega | assumption) only [ ↓vcD, vcE, ↓vcG, vcF, evs, evP, evB, intsOf, fillC, Value.cells, pt, Value.oneCell', reduceIte, reduceCtorEq, Nat.reduceEqDiff, Nat.reduceAdd, Nat.reduceMul, Nat.reduceLT, Nat.reduceBEq, Nat.reduceLeDiff, Nat.reduceSub] -- r21
        refine ⟨_, _, F (sees0 rfl (of_decide_eq_true rfl)) (get_hq rfl rfl) (get_hq rfl rfl), ?_⟩
        simp -implicitDefEqProofs (disch := first | decide | exact of_eq_true (eq_true rfl) | omega | assumption) only [wr5,  ↓vcD, vcE, ↓vcG, vcF, evs, evP, evB, intsOf, fillC, Value.cells, pt, Value.oneCell', reduceIte, reduceCtorEq, Nat.reduceEqDiff, Nat.reduceAdd, Nat.reduceMul, Nat.reduceLT, Nat.reduceBEq, Nat.reduceLeDiff, Nat.reduceSub]
        refine ITri.seq ?_
        refine ITri.seq ?_
        refine ITri.reg pok ?_; simp -implicitDefEqProofs (disch := first | decide | exact of_eq_true (eq_true rfl) | omega | assumption) only [he, decide_false, Bool.not_false,  ↓vcD, vcE, ↓vcG, vcF, evs, evP, evB, intsOf, fillC, Value.cells, pt, Value.oneCell', reduceIte, reduceCtorEq, Nat.reduceEqDiff, Nat.reduceAdd, Nat.reduceMul, Nat.reduceLT, Nat.reduceBEq, Nat.reduceLeDiff, Nat.reduceSub] -- r22
        refine ITri.cond (v := true) rfl (fun _ => ?_) (fun h => by cases h)
        refine ITri.exit ?_; try simp -implicitDefEqProofs (disch := first | decide | exact of_eq_true (eq_true rfl) | omega | assumption) only [ ↓vcD, vcE, ↓vcG, vcF, evs, evP, evB, intsOf, fillC, Value.cells, pt, Value.oneCell', reduceIte, reduceCtorEq, Nat.reduceEqDiff, Nat.reduceAdd, Nat.reduceMul, Nat.reduceLT, Nat.reduceBEq, Nat.reduceLeDiff, Nat.reduceSub]
        exact CutQ.mk () trivial (Wk.gc [0, 1, 2, 3, 4, 5, 6, 7, 8] [] (of_decide_eq_true rfl) (of_decide_eq_true rfl) rfl rfl (of_decide_eq_true rfl) rfl rfl (by repeat (first | exact xiOK_nil | refine xiOK_cons (by first | trivial | exact roomOK _ (by decide)) ?_)) rfl (by simp -implicitDefEqProofs (disch := first | decide | exact of_eq_true (eq_true rfl) | omega | assumption) only [ objOK, sgL, xiL, objAt, nilO, OM, mvL, mv, mvS, okS, okP, mvL_rows, okML, okM, okML_rows, List.getElem?_cons_zero, Option.getD_some, implies_true, imp_self, ne_eq, and_self, true_or, or_true, Nat.zero_mul, Nat.sub_self, openB_self, ↓vcD, vcE, ↓vcG, vcF, evs, evP, evB, intsOf, fillC, Value.cells, pt, Value.oneCell', reduceIte, reduceCtorEq, Nat.reduceEqDiff, Nat.reduceAdd, Nat.reduceMul, Nat.reduceLT, Nat.reduceBEq, Nat.reduceLeDiff, Nat.reduceSub]) (by simp -implicitDefEqProofs (disch := first | decide | exact of_eq_true (eq_true rfl) | omega | assumption) only [ valOK, sgL, xiL, mv, mvA, mvL, mvS, okS, okP, okM, okMA, okML, Option.getD_some, implies_true, and_self, true_or, or_true, Int.natCast_add, Int.cast_ofNat_Int, Nat.zero_mul, Nat.sub_self, openB_self, ↓vcD, vcE, ↓vcG, vcF, evs, evP, evB, intsOf, fillC, Value.cells, pt, Value.oneCell', reduceIte, reduceCtorEq, Nat.reduceEqDiff, Nat.reduceAdd, Nat.reduceMul, Nat.reduceLT, Nat.reduceBEq, Nat.reduceLeDiff, Nat.reduceSub]) (fun _ h => by cases h) ⟨rfl, fun _ h => by cases h⟩)
      have sb := sums_bd G.ok n (by omega)
      have ams := am_sum G.ok (by omega)
      have amo := am_ok G.ok
      have tb := tkn_bd ht G.ok n (by omega)
      have aml : (am rs).length = n := by rw [List.length_map]; exact hrl
      have hlow := G.low
      rw [hrl] at ams hlow
      refine ITri.reg pok ?_; simp -implicitDefEqProofs (disch := first | decide | exact of_eq_true (eq_true rfl) | omega | assumption) only [ ↓vcD, vcE, ↓vcG, vcF, evs, evP, evB, intsOf, fillC, Value.cells, pt, Value.oneCell', reduceIte, reduceCtorEq, Nat.reduceEqDiff, Nat.reduceAdd, Nat.reduceMul, Nat.reduceLT, Nat.reduceBEq, Nat.reduceLeDiff, Nat.reduceSub] -- r21
      refine ⟨_, _, removeG_f bd.1 (show a ≤ b by omega) bd.2.2.2 hrl hb G (sees0 rfl (of_decide_eq_true rfl)) (get_hq rfl rfl) (get_hq rfl rfl), ?_⟩
      simp -implicitDefEqProofs (disch := first | decide | exact of_eq_true (eq_true rfl) | omega | assumption) only [news_c, news_n, wr5,  ↓vcD, vcE, ↓vcG, vcF, evs, evP, evB, intsOf, fillC, Value.cells, pt, Value.oneCell', reduceIte, reduceCtorEq, Nat.reduceEqDiff, Nat.reduceAdd, Nat.reduceMul, Nat.reduceLT, Nat.reduceBEq, Nat.reduceLeDiff, Nat.reduceSub]
      refine ITri.seq ?_
      refine ITri.seq ?_
      refine ITri.reg pok ?_; simp -implicitDefEqProofs (disch := first | decide | exact of_eq_true (eq_true rfl) | omega | assumption) only [decide_true, Bool.not_true,  ↓vcD, vcE, ↓vcG, vcF, evs, evP, evB, intsOf, fillC, Value.cells, pt, Value.oneCell', reduceIte, reduceCtorEq, Nat.reduceEqDiff, Nat.reduceAdd, Nat.reduceMul, Nat.reduceLT, Nat.reduceBEq, Nat.reduceLeDiff, Nat.reduceSub] -- r22
      refine ITri.cond (v := false) rfl (fun h => by cases h) (fun _ => ?_); refine ITri.skip ?_; simp only [SeqQ_normal, BlkQ_normal]
      refine ITri.seq ?_
      refine ITri.seq ?_
      refine ITri.reg pok ?_; simp -implicitDefEqProofs (disch := first | decide | exact of_eq_true (eq_true rfl) | omega | assumption) only [ ↓vcD, vcE, ↓vcG, vcF, evs, evP, evB, intsOf, fillC, Value.cells, pt, Value.oneCell', reduceIte, reduceCtorEq, Nat.reduceEqDiff, Nat.reduceAdd, Nat.reduceMul, Nat.reduceLT, Nat.reduceBEq, Nat.reduceLeDiff, Nat.reduceSub] -- r23
      refine ITri.block ?_ -- 4
      refine ITri.loop (fun k : Nat => [(2, s2 n cs), (3, pt 3), (7, pt 5), (9, pt 8), (11, .int .i64 i), (14, .slice (some ⟨12, 0, none⟩) n openB), (15, .int .i64 (tknF t rs k)), (18, pt 14), (20, .int .i64 k)]) (fun _ => []) (fun k => Hp 3 [none, some (.cells ⟨rows eY t, 0, false⟩), some (.cells ⟨rows eS ss, 0, false⟩), some (.cells ⟨[.int .i64 c.dl, .int .i64 c.dh, .int .i64 c.wl, .int .i64 c.wh, .int .i64 c.le, .int .i64 c.p, .int .i64 c.g, .int .i64 c.st, .int .i64 c.sl, .int .i64 c.sh, s1 nt ct], 1, false⟩), some (.cells ⟨rows eII zs, 2, true⟩), some (.cells ⟨[.slice (some ⟨4, 0, none⟩) m openB, .int .i64 a1, .int .i64 a2, .int .i64 a3, .int .i64 a4, .int .i64 a5, .int .i64 a6, .int .u8 a7], 1, false⟩), some (.cells ⟨rows eI S, 1, true⟩), some (.cells ⟨rows eI K, 1, true⟩), some (.cells ⟨[sO 6 m, sO 7 n0, .int .i64 top, .int .i64 re], 1, false⟩), some (.cells ⟨zr, 2, false⟩), some (.cells ⟨[I6 2, I6 2, I6 a, I6 b, .slice (some ⟨9, 0, none⟩) 4 4], 1, false⟩), some (.cells ⟨rows eR rs, 4, true⟩), some (.cells ⟨rows eII (am rs), 2, true⟩), some (.cells ⟨zr, 2, true⟩), some (.cells ⟨[I6 2, I6 2, I6 (a - pH (am rs) n), I6 (b - pL (am rs) n), .slice (some ⟨13, 0, none⟩) 4 openB], 1, false⟩)]) (fun k => k ≤ n) (fun k => n - k) 0 (Nat.zero_le _) (Wk.sub ⟨rfl, rfl, rfl, rfl, rfl, rfl, rfl, rfl, rfl, trivial⟩) fun k hk => ?_
      refine ITri.seq ?_
      refine ITri.seq ?_
      refine ITri.reg pok ?_; simp -implicitDefEqProofs (disch := first | decide | exact of_eq_true (eq_true rfl) | omega | assumption) only [ ↓vcD, vcE, ↓vcG, vcF, evs, evP, evB, intsOf, fillC, Value.cells, pt, Value.oneCell', reduceIte, reduceCtorEq, Nat.reduceEqDiff, Nat.reduceAdd, Nat.reduceMul, Nat.reduceLT, Nat.reduceBEq, Nat.reduceLeDiff, Nat.reduceSub] -- r24
      refine ITri.condD (by rfl) (fun h9 => ?_) (fun h9 => ?_) -- %120
      · have hkn : k < n := by omega
        have g3 := takeII (xs := am rs) (i := k) (by omega)
        rw [nth_am (by omega)] at g3
        have ok := okRm G.ok (show k < rs.length by omega)
        have pb := plF_bd ht k
        have tb1 := tkn_bd ht G.ok k (by omega)
        have sb1 := sums_bd G.ok k (by omega)
        have ab := atF_bd (lo := (nth rs k).lo) (hi := (nth rs k).hi) (by omega) pb.1 pb.2
        have st : tknF t rs (k + 1) = tknF t rs k + atF (nth rs k).lo (nth rs k).hi (plF t k) := rfl
        have hk1 : (k : Int) + 1 = ((k + 1 : Nat) : Int) := by omega
        refine ITri.skip ?_; simp only [SeqQ_normal, BlkQ_normal]
        refine ITri.seq ?_
        refine ITri.block ?_ -- 5
        refine ITri.draw pok ?_; simp -implicitDefEqProofs (disch := first | decide | exact of_eq_true (eq_true rfl) | omega | assumption) only [g3,  ↓vcD, vcE, ↓vcG, vcF, evs, evP, evB, intsOf, fillC, Value.cells, pt, Value.oneCell', reduceIte, reduceCtorEq, Nat.reduceEqDiff, Nat.reduceAdd, Nat.reduceMul, Nat.reduceLT, Nat.reduceBEq, Nat.reduceLeDiff, Nat.reduceSub] -- r26
        refine ⟨_, _, place_f (t := t) hnt k (by omega) (sees0 rfl (of_decide_eq_true rfl)) (Rd.hq rfl rfl), ?_⟩
        try simp -implicitDefEqProofs (disch := first | decide | exact of_eq_true (eq_true rfl) | omega | assumption) only [ ↓vcD, vcE, ↓vcG, vcF, evs, evP, evB, intsOf, fillC, Value.cells, pt, Value.oneCell', reduceIte, reduceCtorEq, Nat.reduceEqDiff, Nat.reduceAdd, Nat.reduceMul, Nat.reduceLT, Nat.reduceBEq, Nat.reduceLeDiff, Nat.reduceSub]
        refine ⟨_, _, at_f (nth rs k).lo (nth rs k).hi (plF t k) (by omega) (by omega) (by omega) pb.1 pb.2 (sees0 rfl (of_decide_eq_true rfl)), ?_⟩
        try simp -implicitDefEqProofs (disch := first | decide | exact of_eq_true (eq_true rfl) | omega | assumption) only [ ↓vcD, vcE, ↓vcG, vcF, evs, evP, evB, intsOf, fillC, Value.cells, pt, Value.oneCell', reduceIte, reduceCtorEq, Nat.reduceEqDiff, Nat.reduceAdd, Nat.reduceMul, Nat.reduceLT, Nat.reduceBEq, Nat.reduceLeDiff, Nat.reduceSub]
        refine ITri.reg pok ?_; simp -implicitDefEqProofs (disch := first | decide | exact of_eq_true (eq_true rfl) | omega | assumption) only [hk1,  ↓vcD, vcE, ↓vcG, vcF, evs, evP, evB, intsOf, fillC, Value.cells, pt, Value.oneCell', reduceIte, reduceCtorEq, Nat.reduceEqDiff, Nat.reduceAdd, Nat.reduceMul, Nat.reduceLT, Nat.reduceBEq, Nat.reduceLeDiff, Nat.reduceSub] -- r25
        exact LoopQ.next (k + 1) (by omega) (by omega) (by rw [st]; exact Wk.sub ⟨rfl, rfl, rfl, rfl, rfl, rfl, rfl, rfl, rfl, trivial⟩)
      refine ITri.exit ?_; try simp -implicitDefEqProofs (disch := first | decide | exact of_eq_true (eq_true rfl) | omega | assumption) only [ ↓vcD, vcE, ↓vcG, vcF, evs, evP, evB, intsOf, fillC, Value.cells, pt, Value.oneCell', reduceIte, reduceCtorEq, Nat.reduceEqDiff, Nat.reduceAdd, Nat.reduceMul, Nat.reduceLT, Nat.reduceBEq, Nat.reduceLeDiff, Nat.reduceSub] -- exit 4
      obtain rfl : n = k := by omega
      generalize tknF t rs n = tk at *
      refine ITri.seq ?_
      refine ITri.reg pok ?_; simp -implicitDefEqProofs (disch := first | decide | exact of_eq_true (eq_true rfl) | omega | assumption) only [ ↓vcD, vcE, ↓vcG, vcF, evs, evP, evB, intsOf, fillC, Value.cells, pt, Value.oneCell', reduceIte, reduceCtorEq, Nat.reduceEqDiff, Nat.reduceAdd, Nat.reduceMul, Nat.reduceLT, Nat.reduceBEq, Nat.reduceLeDiff, Nat.reduceSub] -- r27
      refine ⟨_, _, usum_f aml (by omega) amo ams (sees0 rfl (of_decide_eq_true rfl)) (Rd.hq rfl rfl), ?_⟩
      simp -implicitDefEqProofs (disch := first | decide | exact of_eq_true (eq_true rfl) | omega | assumption) only [wr22,  ↓vcD, vcE, ↓vcG, vcF, evs, evP, evB, intsOf, fillC, Value.cells, pt, Value.oneCell', reduceIte, reduceCtorEq, Nat.reduceEqDiff, Nat.reduceAdd, Nat.reduceMul, Nat.reduceLT, Nat.reduceBEq, Nat.reduceLeDiff, Nat.reduceSub]
      generalize pL (am rs) n = pl at *
      generalize pH (am rs) n = ph at *
      have q1 : badR (a, b) = false := bad_no (by omega) (by omega) (by omega)
      have q2 : badR (pl, ph) = false := bad_no (by omega) (by omega) (by omega)
      refine ITri.seq ?_
      refine ITri.draw pok ?_; simp -implicitDefEqProofs (disch := first | decide | exact of_eq_true (eq_true rfl) | omega | assumption) only [g1,  ↓vcD, vcE, ↓vcG, vcF, evs, evP, evB, intsOf, fillC, Value.cells, pt, Value.oneCell', reduceIte, reduceCtorEq, Nat.reduceEqDiff, Nat.reduceAdd, Nat.reduceMul, Nat.reduceLT, Nat.reduceBEq, Nat.reduceLeDiff, Nat.reduceSub] -- r28
      refine ⟨_, _, less_f q1 q2 (by omega) (by omega) (sees0 rfl (of_decide_eq_true rfl)), ?_⟩
      simp -implicitDefEqProofs (disch := first | decide | exact of_eq_true (eq_true rfl) | omega | assumption) only [wr22,  ↓vcD, vcE, ↓vcG, vcF, evs, evP, evB, intsOf, fillC, Value.cells, pt, Value.oneCell', reduceIte, reduceCtorEq, Nat.reduceEqDiff, Nat.reduceAdd, Nat.reduceMul, Nat.reduceLT, Nat.reduceBEq, Nat.reduceLeDiff, Nat.reduceSub]
      refine ITri.seq ?_
      refine ITri.reg pok ?_; simp -implicitDefEqProofs (disch := first | decide | exact of_eq_true (eq_true rfl) | omega | assumption) only [ ↓vcD, vcE, ↓vcG, vcF, evs, evP, evB, intsOf, fillC, Value.cells, pt, Value.oneCell', reduceIte, reduceCtorEq, Nat.reduceEqDiff, Nat.reduceAdd, Nat.reduceMul, Nat.reduceLT, Nat.reduceBEq, Nat.reduceLeDiff, Nat.reduceSub] -- r29
      refine ⟨_, _, thick_h (.inr rfl) (show 0 ≤ a - ph by omega) (show a - ph ≤ b - pl by omega) (show b - pl ≤ 10000000 by omega) (sees0 rfl (of_decide_eq_true rfl)) (get_hq rfl rfl), ?_⟩
      simp -implicitDefEqProofs (disch := first | decide | exact of_eq_true (eq_true rfl) | omega | assumption) only [wr22,  ↓vcD, vcE, ↓vcG, vcF, evs, evP, evB, intsOf, fillC, Value.cells, pt, Value.oneCell', reduceIte, reduceCtorEq, Nat.reduceEqDiff, Nat.reduceAdd, Nat.reduceMul, Nat.reduceLT, Nat.reduceBEq, Nat.reduceLeDiff, Nat.reduceSub]
      have wi : inB (x - tk) (a - ph) (b - pl) = true := by unfold inB; rw [decide_eq_true (show a - ph ≤ x - tk by omega), decide_eq_true (show x - tk ≤ b - pl by omega)]; rfl
      refine ITri.seq ?_
      refine ITri.draw pok ?_; simp -implicitDefEqProofs (disch := first | decide | exact of_eq_true (eq_true rfl) | omega | assumption) only [tk5_c, tk5_22, eq2_same, g2, eq_self, Bool.and_true, decide_true, Bool.not_true,  ↓vcD, vcE, ↓vcG, vcF, evs, evP, evB, intsOf, fillC, Value.cells, pt, Value.oneCell', reduceIte, reduceCtorEq, Nat.reduceEqDiff, Nat.reduceAdd, Nat.reduceMul, Nat.reduceLT, Nat.reduceBEq, Nat.reduceLeDiff, Nat.reduceSub] -- r30
      refine ⟨_, _, win_f _ _ _ (sees0 rfl (of_decide_eq_true rfl)), ?_⟩
      rw [wi]
      simp -implicitDefEqProofs (disch := first | decide | exact of_eq_true (eq_true rfl) | omega | assumption) only [Bool.not_true,  ↓vcD, vcE, ↓vcG, vcF, evs, evP, evB, intsOf, fillC, Value.cells, pt, Value.oneCell', reduceIte, reduceCtorEq, Nat.reduceEqDiff, Nat.reduceAdd, Nat.reduceMul, Nat.reduceLT, Nat.reduceBEq, Nat.reduceLeDiff, Nat.reduceSub]
      refine ITri.cond (v := false) rfl (fun h => by cases h) (fun _ => ?_); refine ITri.skip ?_; simp only [SeqQ_normal, BlkQ_normal]
      exact CutQ.mk () trivial (Wk.gc [0, 1, 2, 3, 4, 5, 6, 7, 8] [] (of_decide_eq_true rfl) (of_decide_eq_true rfl) rfl rfl (of_decide_eq_true rfl) rfl rfl (by repeat (first | exact xiOK_nil | refine xiOK_cons (by first | trivial | exact roomOK _ (by decide)) ?_)) rfl (by simp -implicitDefEqProofs (disch := first | decide | exact of_eq_true (eq_true rfl) | omega | assumption) only [ objOK, sgL, xiL, objAt, nilO, OM, mvL, mv, mvS, okS, okP, mvL_rows, okML, okM, okML_rows, List.getElem?_cons_zero, Option.getD_some, implies_true, imp_self, ne_eq, and_self, true_or, or_true, Nat.zero_mul, Nat.sub_self, openB_self, ↓vcD, vcE, ↓vcG, vcF, evs, evP, evB, intsOf, fillC, Value.cells, pt, Value.oneCell', reduceIte, reduceCtorEq, Nat.reduceEqDiff, Nat.reduceAdd, Nat.reduceMul, Nat.reduceLT, Nat.reduceBEq, Nat.reduceLeDiff, Nat.reduceSub]) (by simp -implicitDefEqProofs (disch := first | decide | exact of_eq_true (eq_true rfl) | omega | assumption) only [ valOK, sgL, xiL, mv, mvA, mvL, mvS, okS, okP, okM, okMA, okML, Option.getD_some, implies_true, and_self, true_or, or_true, Int.natCast_add, Int.cast_ofNat_Int, Nat.zero_mul, Nat.sub_self, openB_self, ↓vcD, vcE, ↓vcG, vcF, evs, evP, evB, intsOf, fillC, Value.cells, pt, Value.oneCell', reduceIte, reduceCtorEq, Nat.reduceEqDiff, Nat.reduceAdd, Nat.reduceMul, Nat.reduceLT, Nat.reduceBEq, Nat.reduceLeDiff, Nat.reduceSub]) (fun _ h => by cases h) ⟨rfl, fun _ h => by cases h⟩)
    refine ITri.reg pok ?_; simp -implicitDefEqProofs (disch := first | decide | exact of_eq_true (eq_true rfl) | omega | assumption) only [hi1,  ↓vcD, vcE, ↓vcG, vcF, evs, evP, evB, intsOf, fillC, Value.cells, pt, Value.oneCell', reduceIte, reduceCtorEq, Nat.reduceEqDiff, Nat.reduceAdd, Nat.reduceMul, Nat.reduceLT, Nat.reduceBEq, Nat.reduceLeDiff, Nat.reduceSub] -- r11
    exact LoopQ.next (i + 1) (by omega) (by omega) (Wk.sub ⟨rfl, rfl, rfl, rfl, rfl, trivial⟩)
  refine ITri.exit ?_; try simp -implicitDefEqProofs (disch := first | decide | exact of_eq_true (eq_true rfl) | omega | assumption) only [ ↓vcD, vcE, ↓vcG, vcF, evs, evP, evB, intsOf, fillC, Value.cells, pt, Value.oneCell', reduceIte, reduceCtorEq, Nat.reduceEqDiff, Nat.reduceAdd, Nat.reduceMul, Nat.reduceLT, Nat.reduceBEq, Nat.reduceLeDiff, Nat.reduceSub] -- exit 0
  refine ITri.seq ?_
  refine ITri.reg pok ?_; simp -implicitDefEqProofs (disch := first | decide | exact of_eq_true (eq_true rfl) | omega | assumption) only [ ↓vcD, vcE, ↓vcG, vcF, evs, evP, evB, intsOf, fillC, Value.cells, pt, Value.oneCell', reduceIte, reduceCtorEq, Nat.reduceEqDiff, Nat.reduceAdd, Nat.reduceMul, Nat.reduceLT, Nat.reduceBEq, Nat.reduceLeDiff, Nat.reduceSub] -- r32
  refine ⟨_, _, sliced_f, ?_⟩
  try simp -implicitDefEqProofs (disch := first | decide | exact of_eq_true (eq_true rfl) | omega | assumption) only [ ↓vcD, vcE, ↓vcG, vcF, evs, evP, evB, intsOf, fillC, Value.cells, pt, Value.oneCell', reduceIte, reduceCtorEq, Nat.reduceEqDiff, Nat.reduceAdd, Nat.reduceMul, Nat.reduceLT, Nat.reduceBEq, Nat.reduceLeDiff, Nat.reduceSub]
  refine ITri.ret ?_; exact EndR.plain (by simp) (by rfl) (by rfl) (by rfl)
end
end Go.Proofs.Ytjfgbdmdnejhdaa
