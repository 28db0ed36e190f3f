/-
  Chapter 6: the law RecordTurned, by names.
-/
import Derived.Test.YtgjokhodccacoaaDoorSRecT1
set_option linter.unusedSimpArgs false
set_option linter.unusedVariables false
namespace Go.Proofs.YtgjokhodccacoaaDoor
open Go.RowKit Go.Vm
set_option maxRecDepth 100000
abbrev boxN (W H : Int) (s : Value) : Option AObj := some (.cells ⟨[.int .i64 W, .int .i64 H, s], 1, false⟩)
abbrev cMem (w h : Nat) (W' H' : Int) (n c m d w1 h1 : Nat) (xs ys X cs : List Int) : List (Option AObj) := [none, some (.cells ⟨rows eN xs, 0, false⟩), some (.cells ⟨rows eN ys, 0, false⟩), boxN w h (.slice (some ⟨1, 0, none⟩) n c), boxN W' H' (.slice (some ⟨2, 0, none⟩) m d), some (.cells ⟨rows eN X, 1, true⟩), boxN w1 h1 (sO 5 n), some (.cells ⟨rows eN cs, 1, false⟩)]
/-- What the counts are behind k cells. -/
def CtJ (n : Nat) (xs X : List Int) (k : Nat) (cs : List Int) : Prop := k ≤ n ∧ cs.length = 8 ∧ ∀ v : Nat, v < 8 → nth cs v = cnt xs v k - cnt X v k
theorem ct_begin {n : Nat} {xs X : List Int} : CtJ n xs X 0 (List.replicate 8 0) := by
  refine ⟨Nat.zero_le _, by simp, fun v hv => ?_⟩
  have : (List.replicate 8 (0 : Int))[v]? = some 0 := by rw [List.getElem?_replicate]; simp [hv]
  rw [nth_of this]
  rfl
theorem cnt_bd {xs : List Int} {v : Int} : ∀ k : Nat, 0 ≤ cnt xs v k ∧ cnt xs v k ≤ k
  | 0 => ⟨Int.le_refl _, Int.le_refl _⟩
  | k + 1 => by
    have h := cnt_bd (xs := xs) (v := v) k
    have e : cnt xs v (k + 1) = cnt xs v k + (if nth xs k = v then 1 else 0) := rfl
    rw [e]
    split <;> omega
theorem ct_step {n : Nat} {xs X cs : List Int} {k A B : Nat} (J : CtJ n xs X k cs) (hk : k < n) (hA : nth xs k = A) (hB : nth X k = B) (hA8 : A < 8) (hB8 : B < 8) :
    CtJ n xs X (k + 1) ((cs.set A (nth cs A + 1)).set B (nth (cs.set A (nth cs A + 1)) B - 1)) := by
  obtain ⟨j1, j2, j3⟩ := J
  refine ⟨by omega, by rw [List.length_set, List.length_set, j2], fun v hv => ?_⟩
  have e1 : cnt xs v (k + 1) = cnt xs v k + (if nth xs k = (v : Int) then 1 else 0) := rfl
  have e2 : cnt X v (k + 1) = cnt X v k + (if nth X k = (v : Int) then 1 else 0) := rfl
  rw [e1, e2, hA, hB, nth_set (by rw [List.length_set]; omega), nth_set (by omega), nth_set (by omega)]
  have := j3 v hv
  have := j3 A hA8
  have := j3 B hB8
  by_cases c1 : v = B
  · subst c1
    rw [if_pos rfl, if_pos rfl]
    by_cases c2 : v = A
    · subst c2
      rw [if_pos rfl, if_pos rfl]
      omega
    · rw [if_neg c2, if_neg (by omega)]
      omega
  · rw [if_neg c1, if_neg (fun e : (B : Int) = v => c1 (by omega))]
    by_cases c2 : v = A
    · subst c2
      rw [if_pos rfl, if_pos rfl]
      omega
    · rw [if_neg c2, if_neg (by omega)]
      omega
theorem ct_end {n : Nat} {xs X cs : List Int} (J : CtJ n xs X n cs) (h : ∀ v : Int, cnt X v n = cnt xs v n) : cs = List.replicate 8 0 := by
  obtain ⟨j1, j2, j3⟩ := J
  refine eq_nth (by rw [j2]; simp) fun i hi => ?_
  rw [j3 i (by omega), h]
  have : (List.replicate 8 (0 : Int))[i]? = some 0 := by rw [List.getElem?_replicate]; simp; omega
  rw [nth_of this]
  omega
/- boule/boulelaw06.RecordTurned · slots 250 · names 0:a 1:b 2:q 3:a 4:b 5:q 7:p 8:r 9:x 10:e 11:y 12:z 13:f 14:back 15:g 16:count 17:i 18:w 19:v 20:u 21:s 22:t · results [6] -/
def ir16_r0 : IC := .reg [⟨some 3, none, false, .box (.t 0)⟩,
  ⟨some 4, none, false, .box (.t 1)⟩,
  ⟨some 5, none, false, .box (.t 2)⟩,
  ⟨some 6, none, false, .mv (.k (.bool false))⟩] (some [3, 4, 5])
def ir16_r1 : IC := .reg [⟨some 23, none, false, .fad 2 (.t 3)⟩,
  ⟨some 24, none, false, .ldc (.t 23)⟩,
  ⟨some 25, none, false, .len (.t 24)⟩,
  ⟨some 26, none, false, .cmp .gtr (.t 25) (.k (.int .i64 3600))⟩,
  ⟨some 27, none, false, .mv (.t 26)⟩,
  ⟨some 28, some (27, false), false, .fad 2 (.t 4)⟩,
  ⟨some 29, some (27, false), false, .ldc (.t 28)⟩,
  ⟨some 30, some (27, false), false, .len (.t 29)⟩,
  ⟨some 31, some (27, false), false, .cmp .gtr (.t 30) (.k (.int .i64 3600))⟩,
  ⟨some 32, none, false, .pick (.t 27) (.k (.bool true)) (.t 31)⟩] (some [3, 4, 5, 32])
def ir16_r2 : IC := .reg [⟨some 33, none, false, .call (.f 19) []⟩,
  ⟨some 6, none, false, .mv (.t 33)⟩] (some [6])
def ir16_1 : IC := .seq ir16_r2 .ret
def ir16_2 : IC := .cond (.t 32) ir16_1 .skip
def ir16_3 : IC := .seq ir16_r1 ir16_2
def ir16_r3 : IC := .draw [(⟨some 34, none, false, .iada 2 1 (.t 5) (.k (.int .i64 0))⟩, false, 0, 0),
  (⟨some 35, none, false, .ldc (.t 34)⟩, false, 1, 1),
  (⟨some 36, none, false, .conv .i64 (.t 35)⟩, false, 3, 0),
  (⟨some 37, none, false, .div .rem (.t 36) (.k (.int .i64 4))⟩, false, 7, 0),
  (⟨some 38, none, false, .iada 2 1 (.t 5) (.k (.int .i64 1))⟩, false, 0, 0),
  (⟨some 39, none, false, .ldc (.t 38)⟩, false, 16, 2),
  (⟨some 40, none, false, .conv .i64 (.t 39)⟩, false, 48, 0),
  (⟨some 41, none, false, .div .rem (.t 40) (.k (.int .i64 4))⟩, false, 112, 0),
  (⟨some 7, none, false, .mv (.t 37)⟩, false, 15, 0),
  (⟨some 8, none, false, .mv (.t 41)⟩, false, 511, 0)] (some [3, 4, 7, 8])
def ir16_r4 : IC := .reg [⟨some 43, none, false, .lda 3 (.t 3)⟩,
  ⟨some 44, none, false, .call (.f 35) [(.t 43)]⟩,
  ⟨some 45, none, false, .mv (.t 7)⟩,
  ⟨some 46, none, false, .call (.f 56) [(.t 44), (.t 45)]⟩,
  ⟨some 42, none, false, .mv (.t 46)⟩,
  ⟨some 47, none, false, .ext (.t 42) 0⟩,
  ⟨some 48, none, false, .ext (.t 42) 1⟩,
  ⟨some 9, none, false, .alloc [(.int .i64 0), (.int .i64 0), (.slice none 0 0)]⟩,
  ⟨none, none, false, .st 3 (.t 9) (.t 47)⟩,
  ⟨some 10, none, false, .mv (.t 48)⟩] (some [3, 4, 7, 8, 9, 10])
def ir16_r5 : IC := .reg [⟨some 49, none, false, .mv (.t 10)⟩,
  ⟨some 50, none, false, .cmp .neq (.t 49) (.k (.int .i64 0))⟩] (some [3, 4, 7, 8, 9, 10, 50])
def ir16_r6 : IC := .reg [⟨some 51, none, false, .mv (.t 10)⟩,
  ⟨some 52, none, false, .cmp .eql (.t 51) (.k (.int .i64 2))⟩,
  ⟨some 53, none, false, .mv (.t 52)⟩,
  ⟨some 54, some (53, true), false, .fad 2 (.t 9)⟩,
  ⟨some 55, some (53, true), false, .ldc (.t 54)⟩,
  ⟨some 56, some (53, true), false, .len (.t 55)⟩,
  ⟨some 57, some (53, true), false, .cmp .eql (.t 56) (.k (.int .i64 0))⟩,
  ⟨some 58, none, false, .pick (.t 53) (.t 57) (.k (.bool false))⟩,
  ⟨some 59, none, false, .mv (.t 58)⟩,
  ⟨some 60, some (59, true), false, .call (.f 19) []⟩,
  ⟨some 61, none, false, .pick (.t 59) (.t 60) (.k (.bool false))⟩,
  ⟨some 6, none, false, .mv (.t 61)⟩] (some [6])
def ir16_4 : IC := .seq ir16_r6 .ret
def ir16_5 : IC := .cond (.t 50) ir16_4 .skip
def ir16_6 : IC := .seq ir16_r5 ir16_5
def ir16_r7 : IC := .reg [⟨some 63, none, false, .lda 3 (.t 9)⟩,
  ⟨some 64, none, false, .call (.f 35) [(.t 63)]⟩,
  ⟨some 65, none, false, .mv (.t 8)⟩,
  ⟨some 66, none, false, .call (.f 56) [(.t 64), (.t 65)]⟩,
  ⟨some 62, none, false, .mv (.t 66)⟩,
  ⟨some 67, none, false, .ext (.t 62) 0⟩,
  ⟨some 68, none, false, .ext (.t 62) 1⟩,
  ⟨some 11, none, false, .alloc [(.int .i64 0), (.int .i64 0), (.slice none 0 0)]⟩,
  ⟨none, none, false, .st 3 (.t 11) (.t 67)⟩,
  ⟨some 10, none, false, .mv (.t 68)⟩] (some [3, 4, 7, 8, 9, 10, 11])
def ir16_r8 : IC := .reg [⟨some 70, none, false, .lda 3 (.t 3)⟩,
  ⟨some 71, none, false, .call (.f 35) [(.t 70)]⟩,
  ⟨some 72, none, false, .mv (.t 7)⟩,
  ⟨some 73, none, false, .mv (.t 8)⟩,
  ⟨some 74, none, false, .ar .add (.t 72) (.t 73)⟩,
  ⟨some 75, none, false, .div .rem (.t 74) (.k (.int .i64 4))⟩,
  ⟨some 76, none, false, .call (.f 56) [(.t 71), (.t 75)]⟩,
  ⟨some 69, none, false, .mv (.t 76)⟩,
  ⟨some 77, none, false, .ext (.t 69) 0⟩,
  ⟨some 78, none, false, .ext (.t 69) 1⟩,
  ⟨some 12, none, false, .alloc [(.int .i64 0), (.int .i64 0), (.slice none 0 0)]⟩,
  ⟨none, none, false, .st 3 (.t 12) (.t 77)⟩,
  ⟨some 13, none, false, .mv (.t 78)⟩] (some [3, 4, 7, 9, 10, 11, 12, 13])
def ir16_r9 : IC := .reg [⟨some 80, none, false, .lda 3 (.t 9)⟩,
  ⟨some 81, none, false, .call (.f 35) [(.t 80)]⟩,
  ⟨some 82, none, false, .mv (.t 7)⟩,
  ⟨some 83, none, false, .ar .sub (.k (.int .i64 4)) (.t 82)⟩,
  ⟨some 84, none, false, .div .rem (.t 83) (.k (.int .i64 4))⟩,
  ⟨some 85, none, false, .call (.f 56) [(.t 81), (.t 84)]⟩,
  ⟨some 79, none, false, .mv (.t 85)⟩,
  ⟨some 86, none, false, .ext (.t 79) 0⟩,
  ⟨some 87, none, false, .ext (.t 79) 1⟩,
  ⟨some 14, none, false, .alloc [(.int .i64 0), (.int .i64 0), (.slice none 0 0)]⟩,
  ⟨none, none, false, .st 3 (.t 14) (.t 86)⟩,
  ⟨some 15, none, false, .mv (.t 87)⟩] (some [3, 4, 7, 9, 10, 11, 12, 13, 14, 15])
def ir16_r10 : IC := .reg [⟨some 88, none, false, .mv (.t 10)⟩,
  ⟨some 89, none, false, .cmp .neq (.t 88) (.k (.int .i64 0))⟩,
  ⟨some 90, none, false, .mv (.t 89)⟩,
  ⟨some 91, some (90, false), false, .mv (.t 13)⟩,
  ⟨some 92, some (90, false), false, .cmp .neq (.t 91) (.k (.int .i64 0))⟩,
  ⟨some 93, none, false, .pick (.t 90) (.k (.bool true)) (.t 92)⟩,
  ⟨some 94, none, false, .mv (.t 93)⟩,
  ⟨some 95, some (94, false), false, .mv (.t 15)⟩,
  ⟨some 96, some (94, false), false, .cmp .neq (.t 95) (.k (.int .i64 0))⟩,
  ⟨some 97, none, false, .pick (.t 94) (.k (.bool true)) (.t 96)⟩,
  ⟨some 98, none, false, .mv (.t 97)⟩,
  ⟨some 99, some (98, false), false, .lda 3 (.t 11)⟩,
  ⟨some 100, some (98, false), false, .lda 3 (.t 12)⟩,
  ⟨some 101, some (98, false), false, .call (.f 40) [(.t 99), (.t 100)]⟩,
  ⟨some 102, some (98, false), false, .not (.t 101)⟩,
  ⟨some 103, none, false, .pick (.t 98) (.k (.bool true)) (.t 102)⟩,
  ⟨some 104, none, false, .mv (.t 103)⟩,
  ⟨some 105, some (104, false), false, .lda 3 (.t 14)⟩,
  ⟨some 106, some (104, false), false, .lda 3 (.t 3)⟩,
  ⟨some 107, some (104, false), false, .call (.f 40) [(.t 105), (.t 106)]⟩,
  ⟨some 108, some (104, false), false, .not (.t 107)⟩,
  ⟨some 109, none, false, .pick (.t 104) (.k (.bool true)) (.t 108)⟩,
  ⟨some 110, none, false, .mv (.t 109)⟩,
  ⟨some 111, some (110, false), false, .fad 2 (.t 9)⟩,
  ⟨some 112, some (110, false), false, .ldc (.t 111)⟩,
  ⟨some 113, some (110, false), false, .len (.t 112)⟩,
  ⟨some 114, some (110, false), false, .fad 2 (.t 3)⟩,
  ⟨some 115, some (110, false), false, .ldc (.t 114)⟩,
  ⟨some 116, some (110, false), false, .len (.t 115)⟩,
  ⟨some 117, some (110, false), false, .cmp .neq (.t 113) (.t 116)⟩,
  ⟨some 118, none, false, .pick (.t 110) (.k (.bool true)) (.t 117)⟩] (some [3, 4, 7, 9, 118])
def ir16_r11 : IC := .reg [⟨some 6, none, false, .mv (.k (.bool false))⟩] (some [6])
def ir16_7 : IC := .seq ir16_r11 .ret
def ir16_8 : IC := .cond (.t 118) ir16_7 .skip
def ir16_9 : IC := .seq ir16_r10 ir16_8
def ir16_r12 : IC := .reg [⟨some 119, none, false, .bld [(.int .i64 0), (.int .i64 0), (.int .i64 0), (.int .i64 0), (.int .i64 0), (.int .i64 0), (.int .i64 0), (.int .i64 0)] []⟩,
  ⟨some 16, none, false, .alloc [(.int .i64 0), (.int .i64 0), (.int .i64 0), (.int .i64 0), (.int .i64 0), (.int .i64 0), (.int .i64 0), (.int .i64 0)]⟩,
  ⟨none, none, false, .st 8 (.t 16) (.t 119)⟩] (some [3, 4, 7, 9, 16])
def ir16_r13 : IC := .reg [⟨some 17, none, false, .mv (.k (.int .i64 0))⟩] (some [3, 4, 7, 9, 16, 17])
def ir16_r14 : IC := .reg [⟨some 120, none, false, .mv (.t 17)⟩,
  ⟨some 121, none, false, .fad 2 (.t 3)⟩,
  ⟨some 122, none, false, .ldc (.t 121)⟩,
  ⟨some 123, none, false, .len (.t 122)⟩,
  ⟨some 124, none, false, .cmp .lss (.t 120) (.t 123)⟩] (some [3, 4, 7, 9, 16, 17, 124])
def ir16_10 : IC := .cond (.t 124) .skip (.exit 0)
def ir16_11 : IC := .seq ir16_r14 ir16_10
def ir16_r16 : IC := .reg [⟨some 127, none, false, .fad 2 (.t 9)⟩,
  ⟨some 128, none, false, .ldc (.t 127)⟩,
  ⟨some 129, none, false, .mv (.t 17)⟩,
  ⟨some 130, none, false, .iad 1 (.t 128) (.t 129)⟩,
  ⟨some 131, none, false, .ldc (.t 130)⟩,
  ⟨some 132, none, false, .cmp .lss (.t 131) (.k (.int .i64 0))⟩,
  ⟨some 133, none, false, .mv (.t 132)⟩,
  ⟨some 134, some (133, false), false, .fad 2 (.t 9)⟩,
  ⟨some 135, some (133, false), false, .ldc (.t 134)⟩,
  ⟨some 136, some (133, false), false, .mv (.t 17)⟩,
  ⟨some 137, some (133, false), false, .iad 1 (.t 135) (.t 136)⟩,
  ⟨some 138, some (133, false), false, .ldc (.t 137)⟩,
  ⟨some 139, some (133, false), false, .cmp .gtr (.t 138) (.k (.int .i64 7))⟩,
  ⟨some 140, none, false, .pick (.t 133) (.k (.bool true)) (.t 139)⟩,
  ⟨some 141, none, false, .mv (.t 140)⟩,
  ⟨some 142, some (141, false), false, .fad 2 (.t 3)⟩,
  ⟨some 143, some (141, false), false, .ldc (.t 142)⟩,
  ⟨some 144, some (141, false), false, .mv (.t 17)⟩,
  ⟨some 145, some (141, false), false, .iad 1 (.t 143) (.t 144)⟩,
  ⟨some 146, some (141, false), false, .ldc (.t 145)⟩,
  ⟨some 147, some (141, false), false, .cmp .lss (.t 146) (.k (.int .i64 0))⟩,
  ⟨some 148, none, false, .pick (.t 141) (.k (.bool true)) (.t 147)⟩,
  ⟨some 149, none, false, .mv (.t 148)⟩,
  ⟨some 150, some (149, false), false, .fad 2 (.t 3)⟩,
  ⟨some 151, some (149, false), false, .ldc (.t 150)⟩,
  ⟨some 152, some (149, false), false, .mv (.t 17)⟩,
  ⟨some 153, some (149, false), false, .iad 1 (.t 151) (.t 152)⟩,
  ⟨some 154, some (149, false), false, .ldc (.t 153)⟩,
  ⟨some 155, some (149, false), false, .cmp .gtr (.t 154) (.k (.int .i64 7))⟩,
  ⟨some 156, none, false, .pick (.t 149) (.k (.bool true)) (.t 155)⟩] (some [3, 4, 7, 9, 16, 17, 156])
def ir16_r17 : IC := .reg [⟨some 6, none, false, .mv (.k (.bool false))⟩] (some [6])
def ir16_12 : IC := .seq ir16_r17 .ret
def ir16_13 : IC := .cond (.t 156) ir16_12 .skip
def ir16_14 : IC := .seq ir16_r16 ir16_13
def ir16_r18 : IC := .reg [⟨some 157, none, false, .fad 2 (.t 3)⟩,
  ⟨some 158, none, false, .ldc (.t 157)⟩,
  ⟨some 159, none, false, .mv (.t 17)⟩,
  ⟨some 160, none, false, .iad 1 (.t 158) (.t 159)⟩,
  ⟨some 161, none, false, .ldc (.t 160)⟩,
  ⟨some 162, none, false, .iada 8 1 (.t 16) (.t 161)⟩,
  ⟨some 163, none, false, .ldc (.t 162)⟩,
  ⟨some 164, none, false, .ar .add (.t 163) (.k (.int .i64 1))⟩,
  ⟨some 165, none, false, .iada 8 1 (.t 16) (.t 161)⟩,
  ⟨none, none, false, .st 1 (.t 165) (.t 164)⟩] (some [3, 4, 7, 9, 16, 17])
def ir16_r19 : IC := .reg [⟨some 166, none, false, .fad 2 (.t 9)⟩,
  ⟨some 167, none, false, .ldc (.t 166)⟩,
  ⟨some 168, none, false, .mv (.t 17)⟩,
  ⟨some 169, none, false, .iad 1 (.t 167) (.t 168)⟩,
  ⟨some 170, none, false, .ldc (.t 169)⟩,
  ⟨some 171, none, false, .iada 8 1 (.t 16) (.t 170)⟩,
  ⟨some 172, none, false, .ldc (.t 171)⟩,
  ⟨some 173, none, false, .ar .sub (.t 172) (.k (.int .i64 1))⟩,
  ⟨some 174, none, false, .iada 8 1 (.t 16) (.t 170)⟩,
  ⟨none, none, false, .st 1 (.t 174) (.t 173)⟩] (some [3, 4, 7, 9, 16, 17])
def ir16_15 : IC := .seq ir16_r18 ir16_r19
def ir16_16 : IC := .seq ir16_14 ir16_15
def ir16_17 : IC := .block 1 ir16_16
def ir16_r15 : IC := .reg [⟨some 125, none, false, .mv (.t 17)⟩,
  ⟨some 126, none, false, .ar .add (.t 125) (.k (.int .i64 1))⟩,
  ⟨some 17, none, false, .mv (.t 126)⟩] (some [3, 4, 7, 9, 16, 17])
def ir16_18 : IC := .seq ir16_17 ir16_r15
def ir16_19 : IC := .seq ir16_11 ir16_18
def ir16_20 : IC := .loop ir16_19
def ir16_21 : IC := .block 0 ir16_20
def ir16_22 : IC := .seq ir16_r13 ir16_21
def ir16_r20 : IC := .reg [⟨some 175, none, false, .lda 8 (.t 16)⟩,
  ⟨some 176, none, false, .bld [(.int .i64 0), (.int .i64 0), (.int .i64 0), (.int .i64 0), (.int .i64 0), (.int .i64 0), (.int .i64 0), (.int .i64 0)] []⟩,
  ⟨some 177, none, false, .gen (.binOp .neq 93 (.tmp 175) (.tmp 176) 93)⟩] (some [3, 4, 7, 9, 177])
def ir16_r21 : IC := .reg [⟨some 6, none, false, .mv (.k (.bool false))⟩] (some [6])
def ir16_23 : IC := .seq ir16_r21 .ret
def ir16_24 : IC := .cond (.t 177) ir16_23 .skip
def ir16_25 : IC := .seq ir16_r20 ir16_24
def ir16_r22 : IC := .draw [(⟨some 179, none, false, .lda 3 (.t 3)⟩, false, 0, 1),
  (⟨some 180, none, false, .call (.f 35) [(.t 179)]⟩, false, 1, 1),
  (⟨some 181, none, false, .lda 3 (.t 4)⟩, false, 0, 2),
  (⟨some 182, none, false, .call (.f 35) [(.t 181)]⟩, false, 7, 1),
  (⟨some 183, none, false, .call (.f 57) [(.t 180), (.t 182)]⟩, false, 15, 1),
  (⟨some 178, none, false, .mv (.t 183)⟩, false, 31, 0),
  (⟨some 184, none, false, .ext (.t 178) 0⟩, false, 63, 0),
  (⟨some 185, none, false, .ext (.t 178) 1⟩, false, 63, 0),
  (⟨some 18, none, false, .alloc [(.int .i64 0), (.int .i64 0), (.slice none 0 0)]⟩, false, 0, 16),
  (⟨none, none, false, .st 3 (.t 18) (.t 184)⟩, true, 383, 0),
  (⟨some 10, none, false, .mv (.t 185)⟩, false, 1023, 0)] (some [3, 4, 7, 9, 10, 18])
def ir16_r23 : IC := .draw [(⟨some 187, none, false, .lda 3 (.t 4)⟩, false, 0, 1),
  (⟨some 188, none, false, .call (.f 35) [(.t 187)]⟩, false, 1, 1),
  (⟨some 189, none, false, .lda 3 (.t 3)⟩, false, 0, 2),
  (⟨some 190, none, false, .call (.f 35) [(.t 189)]⟩, false, 7, 1),
  (⟨some 191, none, false, .call (.f 57) [(.t 188), (.t 190)]⟩, false, 15, 1),
  (⟨some 186, none, false, .mv (.t 191)⟩, false, 31, 0),
  (⟨some 192, none, false, .ext (.t 186) 0⟩, false, 63, 0),
  (⟨some 193, none, false, .ext (.t 186) 1⟩, false, 63, 0),
  (⟨some 19, none, false, .alloc [(.int .i64 0), (.int .i64 0), (.slice none 0 0)]⟩, false, 0, 16),
  (⟨none, none, false, .st 3 (.t 19) (.t 192)⟩, true, 383, 0),
  (⟨some 13, none, false, .mv (.t 193)⟩, false, 1023, 0)] (some [4, 7, 9, 10, 13, 18, 19])
def ir16_r24 : IC := .reg [⟨some 194, none, false, .mv (.t 10)⟩,
  ⟨some 195, none, false, .mv (.t 13)⟩,
  ⟨some 196, none, false, .cmp .neq (.t 194) (.t 195)⟩,
  ⟨some 197, none, false, .mv (.t 196)⟩,
  ⟨some 198, some (197, false), false, .lda 3 (.t 18)⟩,
  ⟨some 199, some (197, false), false, .lda 3 (.t 19)⟩,
  ⟨some 200, some (197, false), false, .call (.f 40) [(.t 198), (.t 199)]⟩,
  ⟨some 201, some (197, false), false, .not (.t 200)⟩,
  ⟨some 202, none, false, .pick (.t 197) (.k (.bool true)) (.t 201)⟩] (some [4, 7, 9, 10, 18, 202])
def ir16_r25 : IC := .reg [⟨some 6, none, false, .mv (.k (.bool false))⟩] (some [6])
def ir16_26 : IC := .seq ir16_r25 .ret
def ir16_27 : IC := .cond (.t 202) ir16_26 .skip
def ir16_28 : IC := .seq ir16_r24 ir16_27
def ir16_r26 : IC := .reg [⟨some 203, none, false, .mv (.t 10)⟩,
  ⟨some 204, none, false, .cmp .neq (.t 203) (.k (.int .i64 0))⟩] (some [4, 7, 9, 10, 18, 204])
def ir16_r27 : IC := .reg [⟨some 205, none, false, .mv (.t 10)⟩,
  ⟨some 206, none, false, .cmp .eql (.t 205) (.k (.int .i64 2))⟩,
  ⟨some 207, none, false, .mv (.t 206)⟩,
  ⟨some 208, some (207, true), false, .call (.f 19) []⟩,
  ⟨some 209, none, false, .pick (.t 207) (.t 208) (.k (.bool false))⟩,
  ⟨some 6, none, false, .mv (.t 209)⟩] (some [6])
def ir16_29 : IC := .seq ir16_r27 .ret
def ir16_30 : IC := .cond (.t 204) ir16_29 .skip
def ir16_31 : IC := .seq ir16_r26 ir16_30
def ir16_r28 : IC := .reg [⟨some 211, none, false, .lda 3 (.t 4)⟩,
  ⟨some 212, none, false, .call (.f 35) [(.t 211)]⟩,
  ⟨some 213, none, false, .mv (.t 7)⟩,
  ⟨some 214, none, false, .call (.f 56) [(.t 212), (.t 213)]⟩,
  ⟨some 210, none, false, .mv (.t 214)⟩,
  ⟨some 215, none, false, .ext (.t 210) 0⟩,
  ⟨some 216, none, false, .ext (.t 210) 1⟩,
  ⟨some 20, none, false, .alloc [(.int .i64 0), (.int .i64 0), (.slice none 0 0)]⟩,
  ⟨none, none, false, .st 3 (.t 20) (.t 215)⟩,
  ⟨some 10, none, false, .mv (.t 216)⟩] (some [7, 9, 10, 18, 20])
def ir16_r29 : IC := .reg [⟨some 218, none, false, .lda 3 (.t 18)⟩,
  ⟨some 219, none, false, .call (.f 35) [(.t 218)]⟩,
  ⟨some 220, none, false, .mv (.t 7)⟩,
  ⟨some 221, none, false, .call (.f 56) [(.t 219), (.t 220)]⟩,
  ⟨some 217, none, false, .mv (.t 221)⟩,
  ⟨some 222, none, false, .ext (.t 217) 0⟩,
  ⟨some 223, none, false, .ext (.t 217) 1⟩,
  ⟨some 21, none, false, .alloc [(.int .i64 0), (.int .i64 0), (.slice none 0 0)]⟩,
  ⟨none, none, false, .st 3 (.t 21) (.t 222)⟩,
  ⟨some 13, none, false, .mv (.t 223)⟩] (some [9, 10, 13, 20, 21])
def ir16_r30 : IC := .draw [(⟨some 225, none, false, .lda 3 (.t 9)⟩, false, 0, 1),
  (⟨some 226, none, false, .call (.f 35) [(.t 225)]⟩, false, 1, 1),
  (⟨some 227, none, false, .lda 3 (.t 20)⟩, false, 0, 2),
  (⟨some 228, none, false, .call (.f 35) [(.t 227)]⟩, false, 7, 1),
  (⟨some 229, none, false, .call (.f 57) [(.t 226), (.t 228)]⟩, false, 15, 1),
  (⟨some 224, none, false, .mv (.t 229)⟩, false, 31, 0),
  (⟨some 230, none, false, .ext (.t 224) 0⟩, false, 63, 0),
  (⟨some 231, none, false, .ext (.t 224) 1⟩, false, 63, 0),
  (⟨some 22, none, false, .alloc [(.int .i64 0), (.int .i64 0), (.slice none 0 0)]⟩, false, 0, 16),
  (⟨none, none, false, .st 3 (.t 22) (.t 230)⟩, true, 383, 0),
  (⟨some 15, none, false, .mv (.t 231)⟩, false, 1023, 0)] (some [10, 13, 15, 21, 22])
def ir16_r31 : IC := .reg [⟨some 232, none, false, .mv (.t 10)⟩,
  ⟨some 233, none, false, .cmp .eql (.t 232) (.k (.int .i64 0))⟩,
  ⟨some 234, none, false, .mv (.t 233)⟩,
  ⟨some 235, some (234, true), false, .mv (.t 13)⟩,
  ⟨some 236, some (234, true), false, .cmp .eql (.t 235) (.k (.int .i64 0))⟩,
  ⟨some 237, none, false, .pick (.t 234) (.t 236) (.k (.bool false))⟩,
  ⟨some 238, none, false, .mv (.t 237)⟩,
  ⟨some 239, some (238, true), false, .mv (.t 15)⟩,
  ⟨some 240, some (238, true), false, .cmp .eql (.t 239) (.k (.int .i64 0))⟩,
  ⟨some 241, none, false, .pick (.t 238) (.t 240) (.k (.bool false))⟩,
  ⟨some 242, none, false, .mv (.t 241)⟩,
  ⟨some 243, some (242, true), false, .lda 3 (.t 21)⟩,
  ⟨some 244, some (242, true), false, .lda 3 (.t 22)⟩,
  ⟨some 245, some (242, true), false, .call (.f 40) [(.t 243), (.t 244)]⟩,
  ⟨some 246, none, false, .pick (.t 242) (.t 245) (.k (.bool false))⟩,
  ⟨some 247, none, false, .mv (.t 246)⟩,
  ⟨some 248, some (247, true), false, .call (.f 19) []⟩,
  ⟨some 249, none, false, .pick (.t 247) (.t 248) (.k (.bool false))⟩,
  ⟨some 6, none, false, .mv (.t 249)⟩] (some [6])
def ir16_32 : IC := .seq ir16_r31 .ret
def ir16_33 : IC := .seq ir16_r30 ir16_32
def ir16_34 : IC := .seq ir16_r29 ir16_33
def ir16_35 : IC := .seq ir16_r28 ir16_34
def ir16_36 : IC := .seq ir16_31 ir16_35
def ir16_37 : IC := .seq ir16_28 ir16_36
def ir16_38 : IC := .seq ir16_r23 ir16_37
def ir16_39 : IC := .seq ir16_r22 ir16_38
def ir16_40 : IC := .seq ir16_25 ir16_39
def ir16_41 : IC := .seq ir16_22 ir16_40
def ir16_42 : IC := .seq ir16_r12 ir16_41
def ir16_43 : IC := .seq ir16_9 ir16_42
def ir16_44 : IC := .seq ir16_r9 ir16_43
def ir16_45 : IC := .seq ir16_r8 ir16_44
def ir16_46 : IC := .seq ir16_r7 ir16_45
def ir16_47 : IC := .seq ir16_6 ir16_46
def ir16_48 : IC := .seq ir16_r4 ir16_47
def ir16_49 : IC := .seq ir16_r3 ir16_48
def ir16_50 : IC := .seq ir16_3 ir16_49
def ir16_51 : IC := .seq ir16_r0 ir16_50
def ir16 : IC := ir16_51
theorem fn16 : FnIs Tryd.prog 16 ir16 250 [.tmp 6] := ⟨Tryd.f16, Tryd.f16.body.getD .skip, Tryd.func16, by kernel_rfl, by kernel_rfl, by kernel_rfl, by kernel_rfl⟩
abbrev A8 : Value := .agg ⟨[.int .i64 0, .int .i64 0, .int .i64 0, .int .i64 0, .int .i64 0, .int .i64 0, .int .i64 0, .int .i64 0]⟩
theorem gen_neq8 {w : Bool} {s e : Nat} {l : Fr} {h : AH} {K : Value → AH → Prop} (h1 : lk l s = some A8) (h2 : lk l e = some A8) (q : K (.bool false) h) : iStep Tryd.prog w (.gen (.binOp .neq 93 (.tmp s) (.tmp e) 93)) l h K := by
  refine ⟨_, _, ?_, q⟩
  have e1 : aEnv (trOf l) (.tmp s) = some A8 := by simp only [aEnv, trOf_get, h1]
  have e2 : aEnv (trOf l) (.tmp e) = some A8 := by simp only [aEnv, trOf_get, h2]
  exact op_bin e1 e2 rfl rfl rfl (by kernel_rfl)
set_option maxHeartbeats 2000000 in
theorem turned_c (n c m d Q0 Q1 : Nat) (W H W' H' : Int) (xs ys : List Int) (hn : xs.length = n) (hm : ys.length = m) (hQ0 : Q0 ≤ 255) (hQ1 : Q1 ≤ 255) :
    Fc Tryd.prog 16 [mV 1 n c W H, mV 2 m d W' H', .agg #[.int .u8 Q0, .int .u8 Q1]] (Hp 3 (m2 xs ys)) (.bool true) (Hp 3 (m2 xs ys)) := by
  have f0 : dvI .rem (Q0 : Int) 4 = ((Q0 % 4 : Nat) : Int) := rfl
  have f1 : dvI .rem (Q1 : Int) 4 = ((Q1 % 4 : Nat) : Int) := rfl
  have i0 : ([Value.int .u8 (Q0 : Int), Value.int .u8 (Q1 : Int)] : List Value)[Int.toNat 0]? = some (.int .u8 (Q0 : Int)) := rfl
  have i1 : ([Value.int .u8 (Q0 : Int), Value.int .u8 (Q1 : Int)] : List Value)[Int.toNat 1]? = some (.int .u8 (Q1 : Int)) := rfl
  have z00 : ((0 : Nat) : Int) = 0 := rfl
  refine Fc.intro0 fn16 (by simp) rfl rfl ?_; simp only [argF]
  refine ITri.seq ?_
  refine ITri.reg pok ?_; simp -implicitDefEqProofs (disch := first | decide | exact of_eq_true (eq_true rfl) | omega | assumption) only [ ↓vcD, vcE, ↓vcG, vcF, evs, evP, evB, intsOf, fillC, Value.cells, pt, Value.oneCell', reduceIte, reduceCtorEq, Nat.reduceEqDiff, Nat.reduceAdd, Nat.reduceMul, Nat.reduceLT, Nat.reduceBEq, Nat.reduceLeDiff, Nat.reduceSub] -- r0 plain.go:242
  refine ITri.seq ?_
  refine ITri.seq ?_
  by_cases g1 : 3600 < (n : Int)
  · refine ITri.reg pok ?_; simp -implicitDefEqProofs (disch := first | decide | exact of_eq_true (eq_true rfl) | omega | assumption) only [g1, decide_true,  ↓vcD, vcE, ↓vcG, vcF, evs, evP, evB, intsOf, fillC, Value.cells, pt, Value.oneCell', reduceIte, reduceCtorEq, Nat.reduceEqDiff, Nat.reduceAdd, Nat.reduceMul, Nat.reduceLT, Nat.reduceBEq, Nat.reduceLeDiff, Nat.reduceSub]
    refine ITri.cond (v := true) rfl (fun _ => ?_) (fun h => by cases h)
    refine ITri.seq ?_
    refine ITri.reg pok ?_; simp -implicitDefEqProofs (disch := first | decide | exact of_eq_true (eq_true rfl) | omega | assumption) only [ ↓vcD, vcE, ↓vcG, vcF, evs, evP, evB, intsOf, fillC, Value.cells, pt, Value.oneCell', reduceIte, reduceCtorEq, Nat.reduceEqDiff, Nat.reduceAdd, Nat.reduceMul, Nat.reduceLT, Nat.reduceBEq, Nat.reduceLeDiff, Nat.reduceSub] -- r2
    refine ⟨_, _, knownT, ?_⟩
    try simp -implicitDefEqProofs (disch := first | decide | exact of_eq_true (eq_true rfl) | omega | assumption) only [ ↓vcD, vcE, ↓vcG, vcF, evs, evP, evB, intsOf, fillC, Value.cells, pt, Value.oneCell', reduceIte, reduceCtorEq, Nat.reduceEqDiff, Nat.reduceAdd, Nat.reduceMul, Nat.reduceLT, Nat.reduceBEq, Nat.reduceLeDiff, Nat.reduceSub]
    refine ITri.ret ?_; exact EndR.plain (by simp) (by rfl) (by rfl) (by rfl)
  by_cases g2 : 3600 < (m : Int)
  · refine ITri.reg pok ?_; simp -implicitDefEqProofs (disch := first | decide | exact of_eq_true (eq_true rfl) | omega | assumption) only [g1, g2, decide_true, decide_false,  ↓vcD, vcE, ↓vcG, vcF, evs, evP, evB, intsOf, fillC, Value.cells, pt, Value.oneCell', reduceIte, reduceCtorEq, Nat.reduceEqDiff, Nat.reduceAdd, Nat.reduceMul, Nat.reduceLT, Nat.reduceBEq, Nat.reduceLeDiff, Nat.reduceSub]
    refine ITri.cond (v := true) rfl (fun _ => ?_) (fun h => by cases h)
    refine ITri.seq ?_
    refine ITri.reg pok ?_; simp -implicitDefEqProofs (disch := first | decide | exact of_eq_true (eq_true rfl) | omega | assumption) only [ ↓vcD, vcE, ↓vcG, vcF, evs, evP, evB, intsOf, fillC, Value.cells, pt, Value.oneCell', reduceIte, reduceCtorEq, Nat.reduceEqDiff, Nat.reduceAdd, Nat.reduceMul, Nat.reduceLT, Nat.reduceBEq, Nat.reduceLeDiff, Nat.reduceSub] -- r2
    refine ⟨_, _, knownT, ?_⟩
    try simp -implicitDefEqProofs (disch := first | decide | exact of_eq_true (eq_true rfl) | omega | assumption) only [ ↓vcD, vcE, ↓vcG, vcF, evs, evP, evB, intsOf, fillC, Value.cells, pt, Value.oneCell', reduceIte, reduceCtorEq, Nat.reduceEqDiff, Nat.reduceAdd, Nat.reduceMul, Nat.reduceLT, Nat.reduceBEq, Nat.reduceLeDiff, Nat.reduceSub]
    refine ITri.ret ?_; exact EndR.plain (by simp) (by rfl) (by rfl) (by rfl)
  refine ITri.reg pok ?_; simp -implicitDefEqProofs (disch := first | decide | exact of_eq_true (eq_true rfl) | omega | assumption) only [g1, g2, decide_false,  ↓vcD, vcE, ↓vcG, vcF, evs, evP, evB, intsOf, fillC, Value.cells, pt, Value.oneCell', reduceIte, reduceCtorEq, Nat.reduceEqDiff, Nat.reduceAdd, Nat.reduceMul, Nat.reduceLT, Nat.reduceBEq, Nat.reduceLeDiff, Nat.reduceSub]
  refine ITri.cond (v := false) rfl (fun h => by cases h) (fun _ => ?_); refine ITri.skip ?_; simp only [SeqQ_normal, BlkQ_normal]
  refine ITri.seq ?_
  refine ITri.draw pok ?_; simp -implicitDefEqProofs (disch := first | decide | exact of_eq_true (eq_true rfl) | omega | assumption) only [f0, f1, i0, i1,  ↓vcD, vcE, ↓vcG, vcF, evs, evP, evB, intsOf, fillC, Value.cells, pt, Value.oneCell', reduceIte, reduceCtorEq, Nat.reduceEqDiff, Nat.reduceAdd, Nat.reduceMul, Nat.reduceLT, Nat.reduceBEq, Nat.reduceLeDiff, Nat.reduceSub] -- r3 plain.go:246
  have hp : Q0 % 4 ≤ 3 := by omega
  have hr : Q1 % 4 ≤ 3 := by omega
  generalize Q0 % 4 = p at *
  generalize Q1 % 4 = r at *
  refine ITri.seq ?_
  refine ITri.reg pok ?_; simp -implicitDefEqProofs (disch := first | decide | exact of_eq_true (eq_true rfl) | omega | assumption) only [ ↓vcD, vcE, ↓vcG, vcF, evs, evP, evB, intsOf, fillC, Value.cells, pt, Value.oneCell', reduceIte, reduceCtorEq, Nat.reduceEqDiff, Nat.reduceAdd, Nat.reduceMul, Nat.reduceLT, Nat.reduceBEq, Nat.reduceLeDiff, Nat.reduceSub] -- r4 plain.go:247 CALLS .call F35 [%43] .call F56 [%44, %45]
  refine ⟨_, _, own_f hn (by omega) (sees0 rfl (of_decide_eq_true rfl)) (get_hq rfl rfl), ?_⟩
  simp -implicitDefEqProofs (disch := first | decide | exact of_eq_true (eq_true rfl) | omega | assumption) only [news_c, news_n,  ↓vcD, vcE, ↓vcG, vcF, evs, evP, evB, intsOf, fillC, Value.cells, pt, Value.oneCell', reduceIte, reduceCtorEq, Nat.reduceEqDiff, Nat.reduceAdd, Nat.reduceMul, Nat.reduceLT, Nat.reduceBEq, Nat.reduceLeDiff, Nat.reduceSub]
  refine ⟨_, _, turn_f _ hn (by omega) (sees0 rfl (of_decide_eq_true rfl)) (get_hq rfl rfl), ?_⟩
  cases hmo : mOK W H xs with
  | false =>
    have e1 : turnR W H xs p = ([], 0, 0, 2) := by unfold turnR; rw [hmo]; rfl
    rw [e1]
    simp -implicitDefEqProofs (disch := first | decide | exact of_eq_true (eq_true rfl) | omega | assumption) only [news_c, news_n,  ↓vcD, vcE, ↓vcG, vcF, evs, evP, evB, intsOf, fillC, Value.cells, pt, Value.oneCell', reduceIte, reduceCtorEq, Nat.reduceEqDiff, Nat.reduceAdd, Nat.reduceMul, Nat.reduceLT, Nat.reduceBEq, Nat.reduceLeDiff, Nat.reduceSub]
    refine ITri.seq ?_
    refine ITri.seq ?_
    refine ITri.reg pok ?_; simp -implicitDefEqProofs (disch := first | decide | exact of_eq_true (eq_true rfl) | omega | assumption) only [decide_true, decide_false, d20, Bool.not_false,  ↓vcD, vcE, ↓vcG, vcF, evs, evP, evB, intsOf, fillC, Value.cells, pt, Value.oneCell', reduceIte, reduceCtorEq, Nat.reduceEqDiff, Nat.reduceAdd, Nat.reduceMul, Nat.reduceLT, Nat.reduceBEq, Nat.reduceLeDiff, Nat.reduceSub] -- r5
    refine ITri.cond (v := true) rfl (fun _ => ?_) (fun h => by cases h)
    refine ITri.seq ?_
    refine ITri.reg pok ?_; simp -implicitDefEqProofs (disch := first | decide | exact of_eq_true (eq_true rfl) | omega | assumption) only [decide_true, z00,  ↓vcD, vcE, ↓vcG, vcF, evs, evP, evB, intsOf, fillC, Value.cells, pt, Value.oneCell', reduceIte, reduceCtorEq, Nat.reduceEqDiff, Nat.reduceAdd, Nat.reduceMul, Nat.reduceLT, Nat.reduceBEq, Nat.reduceLeDiff, Nat.reduceSub] -- r6
    refine ⟨_, _, knownT, ?_⟩
    try simp -implicitDefEqProofs (disch := first | decide | exact of_eq_true (eq_true rfl) | omega | assumption) only [ ↓vcD, vcE, ↓vcG, vcF, evs, evP, evB, intsOf, fillC, Value.cells, pt, Value.oneCell', reduceIte, reduceCtorEq, Nat.reduceEqDiff, Nat.reduceAdd, Nat.reduceMul, Nat.reduceLT, Nat.reduceBEq, Nat.reduceLeDiff, Nat.reduceSub]
    refine ITri.ret ?_; exact EndR.plain (by simp) (by rfl) (by rfl) (by rfl)
  | true =>
    obtain ⟨w, h, rfl, rfl, a1, a2, a3, a4, a5, a6⟩ := mOK_parts hmo
    have hX := mOK_trn (q := p) hmo
    have hnl : w * h = n := by omega
    have hXl : (trnF w h p xs).length = n := by rw [trn_len]; exact hnl
    have ew1 := wOf_60 (q := p) a1 a2 a3 a4
    have eh1 := wOf_60 (q := p) a3 a4 a1 a2
    have t2 := turn_two (p := p) (r := r) hmo hr
    have t3 := turn_back hmo hp
    have t4 := fun ys h2 => turn_wor (p := p) (ys := ys) hp hmo h2
    have hcX := mOK_cell hX
    have hcA := mOK_cell hmo
    have hcnt : ∀ v, cnt (trnF w h p xs) v (w * h) = cnt xs v (w * h) := fun v => cnt_trn (w := w) (h := h) (q := p) (xs := xs) v
    rw [hnl] at hcnt
    rw [turnR_ok hmo hp]
    generalize trnF w h p xs = X at *
    generalize hw1 : wOf w h p = w1 at *
    generalize hh1 : wOf h w p = h1 at *
    have htl := len_turn (W := w) (H := h) (xs := xs) (q := ((p + r) % 4 : Nat))
    generalize hY : turnR w h xs ((p + r) % 4 : Nat) = Y at *
    simp -implicitDefEqProofs (disch := first | decide | exact of_eq_true (eq_true rfl) | omega | assumption) only [news_c, news_n, hXl,  ↓vcD, vcE, ↓vcG, vcF, evs, evP, evB, intsOf, fillC, Value.cells, pt, Value.oneCell', reduceIte, reduceCtorEq, Nat.reduceEqDiff, Nat.reduceAdd, Nat.reduceMul, Nat.reduceLT, Nat.reduceBEq, Nat.reduceLeDiff, Nat.reduceSub]
    refine ITri.seq ?_
    refine ITri.seq ?_
    refine ITri.reg pok ?_; simp -implicitDefEqProofs (disch := first | decide | exact of_eq_true (eq_true rfl) | omega | assumption) only [decide_true, Bool.not_true,  ↓vcD, vcE, ↓vcG, vcF, evs, evP, evB, intsOf, fillC, Value.cells, pt, Value.oneCell', reduceIte, reduceCtorEq, Nat.reduceEqDiff, Nat.reduceAdd, Nat.reduceMul, Nat.reduceLT, Nat.reduceBEq, Nat.reduceLeDiff, Nat.reduceSub] -- r5
    refine ITri.cond (v := false) rfl (fun h => by cases h) (fun _ => ?_); refine ITri.skip ?_; simp only [SeqQ_normal, BlkQ_normal]
    refine ITri.seq ?_
    refine ITri.reg pok ?_; simp -implicitDefEqProofs (disch := first | decide | exact of_eq_true (eq_true rfl) | omega | assumption) only [ ↓vcD, vcE, ↓vcG, vcF, evs, evP, evB, intsOf, fillC, Value.cells, pt, Value.oneCell', reduceIte, reduceCtorEq, Nat.reduceEqDiff, Nat.reduceAdd, Nat.reduceMul, Nat.reduceLT, Nat.reduceBEq, Nat.reduceLeDiff, Nat.reduceSub] -- r7
    refine ⟨_, _, own_f hXl (by omega) (sees0 rfl (of_decide_eq_true rfl)) (get_hq rfl rfl), ?_⟩
    simp -implicitDefEqProofs (disch := first | decide | exact of_eq_true (eq_true rfl) | omega | assumption) only [news_c, news_n,  ↓vcD, vcE, ↓vcG, vcF, evs, evP, evB, intsOf, fillC, Value.cells, pt, Value.oneCell', reduceIte, reduceCtorEq, Nat.reduceEqDiff, Nat.reduceAdd, Nat.reduceMul, Nat.reduceLT, Nat.reduceBEq, Nat.reduceLeDiff, Nat.reduceSub]
    refine ⟨_, _, turn_f _ hXl (by omega) (sees0 rfl (of_decide_eq_true rfl)) (get_hq rfl rfl), ?_⟩
    rw [t2]
    simp -implicitDefEqProofs (disch := first | decide | exact of_eq_true (eq_true rfl) | omega | assumption) only [news_c, news_n,  ↓vcD, vcE, ↓vcG, vcF, evs, evP, evB, intsOf, fillC, Value.cells, pt, Value.oneCell', reduceIte, reduceCtorEq, Nat.reduceEqDiff, Nat.reduceAdd, Nat.reduceMul, Nat.reduceLT, Nat.reduceBEq, Nat.reduceLeDiff, Nat.reduceSub]
    have f2 : (p : Int) + (r : Int) = ((p + r : Nat) : Int) := by omega
    have f3 : dvI .rem ((p + r : Nat) : Int) 4 = (((p + r) % 4 : Nat) : Int) := rfl
    have f4 : (4 : Int) - (p : Int) = ((4 - p : Nat) : Int) := by omega
    have f5 : dvI .rem ((4 - p : Nat) : Int) 4 = (((4 - p) % 4 : Nat) : Int) := rfl
    refine ITri.seq ?_
    refine ITri.reg pok ?_; simp -implicitDefEqProofs (disch := first | decide | exact of_eq_true (eq_true rfl) | omega | assumption) only [ ↓vcD, vcE, ↓vcG, vcF, evs, evP, evB, intsOf, fillC, Value.cells, pt, Value.oneCell', reduceIte, reduceCtorEq, Nat.reduceEqDiff, Nat.reduceAdd, Nat.reduceMul, Nat.reduceLT, Nat.reduceBEq, Nat.reduceLeDiff, Nat.reduceSub] -- r8
    refine ⟨_, _, own_f hn (by omega) (sees0 rfl (of_decide_eq_true rfl)) (get_hq rfl rfl), ?_⟩
    simp -implicitDefEqProofs (disch := first | decide | exact of_eq_true (eq_true rfl) | omega | assumption) only [news_c, news_n, f2, f3,  ↓vcD, vcE, ↓vcG, vcF, evs, evP, evB, intsOf, fillC, Value.cells, pt, Value.oneCell', reduceIte, reduceCtorEq, Nat.reduceEqDiff, Nat.reduceAdd, Nat.reduceMul, Nat.reduceLT, Nat.reduceBEq, Nat.reduceLeDiff, Nat.reduceSub]
    refine ⟨_, _, turn_f _ hn (by omega) (sees0 rfl (of_decide_eq_true rfl)) (get_hq rfl rfl), ?_⟩
    have hY' : turnR w h xs (((p + r : Nat) : Int) % 4) = Y := hY
    first | rw [hY] | rw [hY']
    simp -implicitDefEqProofs (disch := first | decide | exact of_eq_true (eq_true rfl) | omega | assumption) only [news_c, news_n,  ↓vcD, vcE, ↓vcG, vcF, evs, evP, evB, intsOf, fillC, Value.cells, pt, Value.oneCell', reduceIte, reduceCtorEq, Nat.reduceEqDiff, Nat.reduceAdd, Nat.reduceMul, Nat.reduceLT, Nat.reduceBEq, Nat.reduceLeDiff, Nat.reduceSub]
    refine ITri.seq ?_
    refine ITri.reg pok ?_; simp -implicitDefEqProofs (disch := first | decide | exact of_eq_true (eq_true rfl) | omega | assumption) only [ ↓vcD, vcE, ↓vcG, vcF, evs, evP, evB, intsOf, fillC, Value.cells, pt, Value.oneCell', reduceIte, reduceCtorEq, Nat.reduceEqDiff, Nat.reduceAdd, Nat.reduceMul, Nat.reduceLT, Nat.reduceBEq, Nat.reduceLeDiff, Nat.reduceSub] -- r9
    refine ⟨_, _, own_f hXl (by omega) (sees0 rfl (of_decide_eq_true rfl)) (get_hq rfl rfl), ?_⟩
    simp -implicitDefEqProofs (disch := first | decide | exact of_eq_true (eq_true rfl) | omega | assumption) only [news_c, news_n, f4, f5,  ↓vcD, vcE, ↓vcG, vcF, evs, evP, evB, intsOf, fillC, Value.cells, pt, Value.oneCell', reduceIte, reduceCtorEq, Nat.reduceEqDiff, Nat.reduceAdd, Nat.reduceMul, Nat.reduceLT, Nat.reduceBEq, Nat.reduceLeDiff, Nat.reduceSub]
    refine ⟨_, _, turn_f _ hXl (by omega) (sees0 rfl (of_decide_eq_true rfl)) (get_hq rfl rfl), ?_⟩
    have t3' : turnR w1 h1 X (((4 - p : Nat) : Int) % 4) = (xs, (w : Int), (h : Int), 0) := t3
    first | rw [t3] | rw [t3']
    simp -implicitDefEqProofs (disch := first | decide | exact of_eq_true (eq_true rfl) | omega | assumption) only [news_c, news_n,  ↓vcD, vcE, ↓vcG, vcF, evs, evP, evB, intsOf, fillC, Value.cells, pt, Value.oneCell', reduceIte, reduceCtorEq, Nat.reduceEqDiff, Nat.reduceAdd, Nat.reduceMul, Nat.reduceLT, Nat.reduceBEq, Nat.reduceLeDiff, Nat.reduceSub]
    have hYe : Y.2.2.2 = 0 := by rw [← hY, turnR_ok hmo (by omega)]
    refine ITri.seq ?_
    refine ITri.seq ?_
    refine ITri.reg pok ?_; simp -implicitDefEqProofs (disch := first | decide | exact of_eq_true (eq_true rfl) | omega | assumption) only [hYe, decide_true, Bool.not_true,  ↓vcD, vcE, ↓vcG, vcF, evs, evP, evB, intsOf, fillC, Value.cells, pt, Value.oneCell', reduceIte, reduceCtorEq, Nat.reduceEqDiff, Nat.reduceAdd, Nat.reduceMul, Nat.reduceLT, Nat.reduceBEq, Nat.reduceLeDiff, Nat.reduceSub] -- r10
    refine ⟨_, _, same_f rfl rfl htl htl (sees0 rfl (of_decide_eq_true rfl)) (get_hq rfl rfl) (get_hq rfl rfl), ?_⟩
    rw [same_refl]
    simp -implicitDefEqProofs (disch := first | decide | exact of_eq_true (eq_true rfl) | omega | assumption) only [Bool.not_true,  ↓vcD, vcE, ↓vcG, vcF, evs, evP, evB, intsOf, fillC, Value.cells, pt, Value.oneCell', reduceIte, reduceCtorEq, Nat.reduceEqDiff, Nat.reduceAdd, Nat.reduceMul, Nat.reduceLT, Nat.reduceBEq, Nat.reduceLeDiff, Nat.reduceSub]
    refine ⟨_, _, same_f rfl hn (by omega) (by omega) (sees0 rfl (of_decide_eq_true rfl)) (get_hq rfl rfl) (get_hq rfl rfl), ?_⟩
    rw [same_refl]
    simp -implicitDefEqProofs (disch := first | decide | exact of_eq_true (eq_true rfl) | omega | assumption) only [Bool.not_true, decide_true,  ↓vcD, vcE, ↓vcG, vcF, evs, evP, evB, intsOf, fillC, Value.cells, pt, Value.oneCell', reduceIte, reduceCtorEq, Nat.reduceEqDiff, Nat.reduceAdd, Nat.reduceMul, Nat.reduceLT, Nat.reduceBEq, Nat.reduceLeDiff, Nat.reduceSub]
    refine ITri.cond (v := false) rfl (fun h => by cases h) (fun _ => ?_); refine ITri.skip ?_; simp only [SeqQ_normal, BlkQ_normal]
    refine ITri.seq ?_
    refine ITri.reg pok ?_; simp -implicitDefEqProofs (disch := first | decide | exact of_eq_true (eq_true rfl) | omega | assumption) only [ ↓vcD, vcE, ↓vcG, vcF, evs, evP, evB, intsOf, fillC, Value.cells, pt, Value.oneCell', reduceIte, reduceCtorEq, Nat.reduceEqDiff, Nat.reduceAdd, Nat.reduceMul, Nat.reduceLT, Nat.reduceBEq, Nat.reduceLeDiff, Nat.reduceSub] -- r12
    refine ITri.seq ?_
    refine ITri.seq ?_
    refine ITri.reg pok ?_; simp -implicitDefEqProofs (disch := first | decide | exact of_eq_true (eq_true rfl) | omega | assumption) only [ ↓vcD, vcE, ↓vcG, vcF, evs, evP, evB, intsOf, fillC, Value.cells, pt, Value.oneCell', reduceIte, reduceCtorEq, Nat.reduceEqDiff, Nat.reduceAdd, Nat.reduceMul, Nat.reduceLT, Nat.reduceBEq, Nat.reduceLeDiff, Nat.reduceSub] -- r13
    refine ITri.block ?_ -- 0
    have z0 : rows eN (List.replicate 8 0) = [.int .i64 0, .int .i64 0, .int .i64 0, .int .i64 0, .int .i64 0, .int .i64 0, .int .i64 0, .int .i64 0] := rfl
    refine ITri.loop (fun s : Nat × List Int => [(3, pt 3), (4, pt 4), (7, .int .i64 p), (9, pt 6), (16, pt 7), (17, .int .i64 s.1)]) (fun _ => []) (fun s => Hp 3 (cMem w h W' H' n c m d w1 h1 xs ys X s.2)) (fun s => CtJ n xs X s.1 s.2) (fun s => n - s.1) (0, List.replicate 8 0) ct_begin (Wk.gc [0, 1, 2, 3, 4, 7, 8, 18] [] (of_decide_eq_true rfl) (of_decide_eq_true rfl) rfl rfl (of_decide_eq_true rfl) rfl rfl (by repeat (first | exact xiOK_nil | refine xiOK_cons (by first | trivial | exact roomOK _ (by decide)) ?_)) rfl (by simp -implicitDefEqProofs (disch := first | decide | exact of_eq_true (eq_true rfl) | omega | assumption) only [z0, z00, objOK, sgL, xiL, objAt, nilO, OM, mvL, mv, mvS, okS, okP, mvL_rows, okML, okM, okML_rows, List.getElem?_cons_zero, Option.getD_some, implies_true, imp_self, ne_eq, and_self, true_or, or_true, Nat.zero_mul, Nat.sub_self, openB_self, ↓vcD, vcE, ↓vcG, vcF, evs, evP, evB, intsOf, fillC, Value.cells, pt, Value.oneCell', reduceIte, reduceCtorEq, Nat.reduceEqDiff, Nat.reduceAdd, Nat.reduceMul, Nat.reduceLT, Nat.reduceBEq, Nat.reduceLeDiff, Nat.reduceSub]) (by simp -implicitDefEqProofs (disch := first | decide | exact of_eq_true (eq_true rfl) | omega | assumption) only [z0, z00, valOK, sgL, xiL, mv, mvA, mvL, mvS, okS, okP, okM, okMA, okML, Option.getD_some, implies_true, and_self, true_or, or_true, Int.natCast_add, Int.cast_ofNat_Int, Nat.zero_mul, Nat.sub_self, openB_self, ↓vcD, vcE, ↓vcG, vcF, evs, evP, evB, intsOf, fillC, Value.cells, pt, Value.oneCell', reduceIte, reduceCtorEq, Nat.reduceEqDiff, Nat.reduceAdd, Nat.reduceMul, Nat.reduceLT, Nat.reduceBEq, Nat.reduceLeDiff, Nat.reduceSub]) (fun _ h => by cases h) ⟨rfl, fun _ h => by cases h⟩) fun s J => ?_
    obtain ⟨k, cs⟩ := s
    obtain ⟨j1, j2, j3⟩ := id J
    simp only at j1 j2 j3
    refine ITri.seq ?_
    refine ITri.seq ?_
    refine ITri.reg pok ?_; simp -implicitDefEqProofs (disch := first | decide | exact of_eq_true (eq_true rfl) | omega | assumption) only [ ↓vcD, vcE, ↓vcG, vcF, evs, evP, evB, intsOf, fillC, Value.cells, pt, Value.oneCell', reduceIte, reduceCtorEq, Nat.reduceEqDiff, Nat.reduceAdd, Nat.reduceMul, Nat.reduceLT, Nat.reduceBEq, Nat.reduceLeDiff, Nat.reduceSub] -- r14
    refine ITri.condD (by rfl) (fun h5 => ?_) (fun h5 => ?_) -- %124
    · have hkn : k < n := by omega
      have gX := getN (xs := X) (i := k) (by omega)
      have gA := getN (xs := xs) (i := k) (by omega)
      have bX := hcX k (by omega)
      have bA := hcA k (by omega)
      obtain ⟨A, hA⟩ := Int.eq_ofNat_of_zero_le bA.1
      obtain ⟨B, hB⟩ := Int.eq_ofNat_of_zero_le bX.1
      have J2 := ct_step J hkn hA hB (by omega) (by omega)
      rw [hA] at gA bA
      rw [hB] at gX bX
      have c1 := cnt_bd (xs := xs) (v := A) k
      have c2 := cnt_bd (xs := X) (v := A) k
      have c3 := cnt_bd (xs := xs) (v := B) k
      have c4 := cnt_bd (xs := X) (v := B) k
      have d1 := j3 A (by omega)
      have d2 := j3 B (by omega)
      have hlA : A < cs.length := by omega
      have gcA := getN hlA
      have hwA : writeAt (rows eN cs) A [.int .i64 (nth cs A + 1)] = rows eN (cs.set A (nth cs A + 1)) := by
        have := rows_writef (f := eN) (c := 1) (v := .int .i64 (nth cs A + 1)) (nth cs A + 1) hlA (j := 0) (by decide) rfl
        rwa [Nat.mul_one, Nat.add_zero] at this
      have hs1 : (cs.set A (nth cs A + 1)).length = 8 := by rw [List.length_set]; exact j2
      have hnB : nth (cs.set A (nth cs A + 1)) B = if B = A then nth cs A + 1 else nth cs B := nth_set hlA
      have bdB : -10000 ≤ nth (cs.set A (nth cs A + 1)) B ∧ nth (cs.set A (nth cs A + 1)) B ≤ 10000 := by
        rw [hnB]
        split <;> omega
      have bdA : -10000 ≤ nth cs A ∧ nth cs A ≤ 10000 := by omega
      generalize cs.set A (nth cs A + 1) = cs1 at *
      have hlB : B < cs1.length := by omega
      have gcB := getN hlB
      have hwB : writeAt (rows eN cs1) B [.int .i64 (nth cs1 B - 1)] = rows eN (cs1.set B (nth cs1 B - 1)) := by
        have := rows_writef (f := eN) (c := 1) (v := .int .i64 (nth cs1 B - 1)) (nth cs1 B - 1) hlB (j := 0) (by decide) rfl
        rwa [Nat.mul_one, Nat.add_zero] at this
      have u1 : ¬ (B : Int) < 0 := by omega
      have u2 : ¬ 7 < (B : Int) := by omega
      have u3 : ¬ (A : Int) < 0 := by omega
      have u4 : ¬ 7 < (A : Int) := by omega
      have hA8 : (A : Int) < 8 := by omega
      have hB8 : (B : Int) < 8 := by omega
      have hk1 : (k : Int) + 1 = ((k + 1 : Nat) : Int) := by omega
      refine ITri.skip ?_; simp only [SeqQ_normal, BlkQ_normal]
      refine ITri.seq ?_
      refine ITri.block ?_ -- 1
      refine ITri.seq ?_
      refine ITri.seq ?_
      refine ITri.reg pok ?_; simp -implicitDefEqProofs (disch := first | decide | exact of_eq_true (eq_true rfl) | omega | assumption) only [gX, gA, u1, u2, u3, u4, decide_false,  ↓vcD, vcE, ↓vcG, vcF, evs, evP, evB, intsOf, fillC, Value.cells, pt, Value.oneCell', reduceIte, reduceCtorEq, Nat.reduceEqDiff, Nat.reduceAdd, Nat.reduceMul, Nat.reduceLT, Nat.reduceBEq, Nat.reduceLeDiff, Nat.reduceSub] -- r16
      refine ITri.cond (v := false) rfl (fun h => by cases h) (fun _ => ?_); refine ITri.skip ?_; simp only [SeqQ_normal, BlkQ_normal]
      refine ITri.seq ?_
      refine ITri.reg pok ?_; simp -implicitDefEqProofs (disch := first | decide | exact of_eq_true (eq_true rfl) | omega | assumption) only [gA, gcA, hwA, rows_len, j2,  ↓vcD, vcE, ↓vcG, vcF, evs, evP, evB, intsOf, fillC, Value.cells, pt, Value.oneCell', reduceIte, reduceCtorEq, Nat.reduceEqDiff, Nat.reduceAdd, Nat.reduceMul, Nat.reduceLT, Nat.reduceBEq, Nat.reduceLeDiff, Nat.reduceSub] -- r18
      refine ITri.reg pok ?_; simp -implicitDefEqProofs (disch := first | decide | exact of_eq_true (eq_true rfl) | omega | assumption) only [gX, gcB, hwB, rows_len, hs1,  ↓vcD, vcE, ↓vcG, vcF, evs, evP, evB, intsOf, fillC, Value.cells, pt, Value.oneCell', reduceIte, reduceCtorEq, Nat.reduceEqDiff, Nat.reduceAdd, Nat.reduceMul, Nat.reduceLT, Nat.reduceBEq, Nat.reduceLeDiff, Nat.reduceSub] -- r19
      refine ITri.reg pok ?_; simp -implicitDefEqProofs (disch := first | decide | exact of_eq_true (eq_true rfl) | omega | assumption) only [hk1,  ↓vcD, vcE, ↓vcG, vcF, evs, evP, evB, intsOf, fillC, Value.cells, pt, Value.oneCell', reduceIte, reduceCtorEq, Nat.reduceEqDiff, Nat.reduceAdd, Nat.reduceMul, Nat.reduceLT, Nat.reduceBEq, Nat.reduceLeDiff, Nat.reduceSub] -- r15
      exact LoopQ.next (k + 1, cs1.set B (nth cs1 B - 1)) J2 (by show n - (k + 1) < n - k; omega) (Wk.sub ⟨rfl, rfl, rfl, rfl, rfl, rfl, trivial⟩)
    refine ITri.exit ?_; try simp -implicitDefEqProofs (disch := first | decide | exact of_eq_true (eq_true rfl) | omega | assumption) only [ ↓vcD, vcE, ↓vcG, vcF, evs, evP, evB, intsOf, fillC, Value.cells, pt, Value.oneCell', reduceIte, reduceCtorEq, Nat.reduceEqDiff, Nat.reduceAdd, Nat.reduceMul, Nat.reduceLT, Nat.reduceBEq, Nat.reduceLeDiff, Nat.reduceSub]
    obtain rfl : k = n := by omega
    obtain rfl := ct_end J hcnt
    refine ITri.seq ?_
    refine ITri.seq ?_
    refine ITri.reg pok ?_; simp -implicitDefEqProofs (disch := first | decide | exact of_eq_true (eq_true rfl) | omega | assumption) only [z0,  ↓vcD, vcE, ↓vcG, vcF, evs, evP, evB, intsOf, fillC, Value.cells, pt, Value.oneCell', reduceIte, reduceCtorEq, Nat.reduceEqDiff, Nat.reduceAdd, Nat.reduceMul, Nat.reduceLT, Nat.reduceBEq, Nat.reduceLeDiff, Nat.reduceSub] -- r20
    refine gen_neq8 rfl rfl ?_
    try simp -implicitDefEqProofs (disch := first | decide | exact of_eq_true (eq_true rfl) | omega | assumption) only [ ↓vcD, vcE, ↓vcG, vcF, evs, evP, evB, intsOf, fillC, Value.cells, pt, Value.oneCell', reduceIte, reduceCtorEq, Nat.reduceEqDiff, Nat.reduceAdd, Nat.reduceMul, Nat.reduceLT, Nat.reduceBEq, Nat.reduceLeDiff, Nat.reduceSub]
    refine ITri.cond (v := false) rfl (fun h => by cases h) (fun _ => ?_); refine ITri.skip ?_; simp only [SeqQ_normal, BlkQ_normal]
    refine ITri.seq ?_
    refine ITri.draw pok ?_; simp -implicitDefEqProofs (disch := first | decide | exact of_eq_true (eq_true rfl) | omega | assumption) only [ ↓vcD, vcE, ↓vcG, vcF, evs, evP, evB, intsOf, fillC, Value.cells, pt, Value.oneCell', reduceIte, reduceCtorEq, Nat.reduceEqDiff, Nat.reduceAdd, Nat.reduceMul, Nat.reduceLT, Nat.reduceBEq, Nat.reduceLeDiff, Nat.reduceSub] -- r22
    refine ⟨_, _, own_f hn (by omega) (sees0 rfl (of_decide_eq_true rfl)) (get_hq rfl rfl), ?_⟩
    simp -implicitDefEqProofs (disch := first | decide | exact of_eq_true (eq_true rfl) | omega | assumption) only [news_c, news_n,  ↓vcD, vcE, ↓vcG, vcF, evs, evP, evB, intsOf, fillC, Value.cells, pt, Value.oneCell', reduceIte, reduceCtorEq, Nat.reduceEqDiff, Nat.reduceAdd, Nat.reduceMul, Nat.reduceLT, Nat.reduceBEq, Nat.reduceLeDiff, Nat.reduceSub]
    refine ⟨_, _, own_f hm (by omega) (sees0 rfl (of_decide_eq_true rfl)) (get_hq rfl rfl), ?_⟩
    simp -implicitDefEqProofs (disch := first | decide | exact of_eq_true (eq_true rfl) | omega | assumption) only [news_c, news_n,  ↓vcD, vcE, ↓vcG, vcF, evs, evP, evB, intsOf, fillC, Value.cells, pt, Value.oneCell', reduceIte, reduceCtorEq, Nat.reduceEqDiff, Nat.reduceAdd, Nat.reduceMul, Nat.reduceLT, Nat.reduceBEq, Nat.reduceLeDiff, Nat.reduceSub]
    refine ⟨_, _, worst_fF worst_bad worst_ok hn hm (by omega) (by omega) (sees0 rfl (of_decide_eq_true rfl)) (get_hq rfl rfl) (get_hq rfl rfl), ?_⟩
    have hwl := len_wor (W := w) (H := h) (W' := W') (H' := H') (xs := xs) (ys := ys)
    have hwc := wor_comm (W := W') (H := H') (W' := w) (H' := h) (xs := ys) (ys := xs)
    generalize hV : worR w h xs W' H' ys = V at *
    simp -implicitDefEqProofs (disch := first | decide | exact of_eq_true (eq_true rfl) | omega | assumption) only [news_c, news_n,  ↓vcD, vcE, ↓vcG, vcF, evs, evP, evB, intsOf, fillC, Value.cells, pt, Value.oneCell', reduceIte, reduceCtorEq, Nat.reduceEqDiff, Nat.reduceAdd, Nat.reduceMul, Nat.reduceLT, Nat.reduceBEq, Nat.reduceLeDiff, Nat.reduceSub]
    refine ITri.seq ?_
    refine ITri.draw pok ?_; simp -implicitDefEqProofs (disch := first | decide | exact of_eq_true (eq_true rfl) | omega | assumption) only [ ↓vcD, vcE, ↓vcG, vcF, evs, evP, evB, intsOf, fillC, Value.cells, pt, Value.oneCell', reduceIte, reduceCtorEq, Nat.reduceEqDiff, Nat.reduceAdd, Nat.reduceMul, Nat.reduceLT, Nat.reduceBEq, Nat.reduceLeDiff, Nat.reduceSub] -- r23
    refine ⟨_, _, own_f hm (by omega) (sees0 rfl (of_decide_eq_true rfl)) (get_hq rfl rfl), ?_⟩
    simp -implicitDefEqProofs (disch := first | decide | exact of_eq_true (eq_true rfl) | omega | assumption) only [news_c, news_n,  ↓vcD, vcE, ↓vcG, vcF, evs, evP, evB, intsOf, fillC, Value.cells, pt, Value.oneCell', reduceIte, reduceCtorEq, Nat.reduceEqDiff, Nat.reduceAdd, Nat.reduceMul, Nat.reduceLT, Nat.reduceBEq, Nat.reduceLeDiff, Nat.reduceSub]
    refine ⟨_, _, own_f hn (by omega) (sees0 rfl (of_decide_eq_true rfl)) (get_hq rfl rfl), ?_⟩
    simp -implicitDefEqProofs (disch := first | decide | exact of_eq_true (eq_true rfl) | omega | assumption) only [news_c, news_n,  ↓vcD, vcE, ↓vcG, vcF, evs, evP, evB, intsOf, fillC, Value.cells, pt, Value.oneCell', reduceIte, reduceCtorEq, Nat.reduceEqDiff, Nat.reduceAdd, Nat.reduceMul, Nat.reduceLT, Nat.reduceBEq, Nat.reduceLeDiff, Nat.reduceSub]
    refine ⟨_, _, worst_fF worst_bad worst_ok hm hn (by omega) (by omega) (sees0 rfl (of_decide_eq_true rfl)) (get_hq rfl rfl) (get_hq rfl rfl), ?_⟩
    rw [hwc]
    simp -implicitDefEqProofs (disch := first | decide | exact of_eq_true (eq_true rfl) | omega | assumption) only [news_c, news_n,  ↓vcD, vcE, ↓vcG, vcF, evs, evP, evB, intsOf, fillC, Value.cells, pt, Value.oneCell', reduceIte, reduceCtorEq, Nat.reduceEqDiff, Nat.reduceAdd, Nat.reduceMul, Nat.reduceLT, Nat.reduceBEq, Nat.reduceLeDiff, Nat.reduceSub]
    refine ITri.seq ?_
    refine ITri.seq ?_
    refine ITri.reg pok ?_; simp -implicitDefEqProofs (disch := first | decide | exact of_eq_true (eq_true rfl) | omega | assumption) only [decide_true, Bool.not_true,  ↓vcD, vcE, ↓vcG, vcF, evs, evP, evB, intsOf, fillC, Value.cells, pt, Value.oneCell', reduceIte, reduceCtorEq, Nat.reduceEqDiff, Nat.reduceAdd, Nat.reduceMul, Nat.reduceLT, Nat.reduceBEq, Nat.reduceLeDiff, Nat.reduceSub] -- r24
    refine ⟨_, _, same_f rfl rfl hwl hwl (sees0 rfl (of_decide_eq_true rfl)) (get_hq rfl rfl) (get_hq rfl rfl), ?_⟩
    rw [same_refl]
    simp -implicitDefEqProofs (disch := first | decide | exact of_eq_true (eq_true rfl) | omega | assumption) only [Bool.not_true,  ↓vcD, vcE, ↓vcG, vcF, evs, evP, evB, intsOf, fillC, Value.cells, pt, Value.oneCell', reduceIte, reduceCtorEq, Nat.reduceEqDiff, Nat.reduceAdd, Nat.reduceMul, Nat.reduceLT, Nat.reduceBEq, Nat.reduceLeDiff, Nat.reduceSub]
    refine ITri.cond (v := false) rfl (fun h => by cases h) (fun _ => ?_); refine ITri.skip ?_; simp only [SeqQ_normal, BlkQ_normal]
    refine ITri.seq ?_
    refine ITri.seq ?_
    cases hws : wsOK w h xs W' H' ys with
    | false =>
      have hV2 : V.2.2.2 = 2 := by rw [← hV]; unfold worR; rw [hws]; rfl
      refine ITri.reg pok ?_; simp -implicitDefEqProofs (disch := first | decide | exact of_eq_true (eq_true rfl) | omega | assumption) only [hV2, d20, Bool.not_false,  ↓vcD, vcE, ↓vcG, vcF, evs, evP, evB, intsOf, fillC, Value.cells, pt, Value.oneCell', reduceIte, reduceCtorEq, Nat.reduceEqDiff, Nat.reduceAdd, Nat.reduceMul, Nat.reduceLT, Nat.reduceBEq, Nat.reduceLeDiff, Nat.reduceSub] -- r26
      refine ITri.cond (v := true) rfl (fun _ => ?_) (fun h => by cases h)
      refine ITri.seq ?_
      refine ITri.reg pok ?_; simp -implicitDefEqProofs (disch := first | decide | exact of_eq_true (eq_true rfl) | omega | assumption) only [hV2, decide_true,  ↓vcD, vcE, ↓vcG, vcF, evs, evP, evB, intsOf, fillC, Value.cells, pt, Value.oneCell', reduceIte, reduceCtorEq, Nat.reduceEqDiff, Nat.reduceAdd, Nat.reduceMul, Nat.reduceLT, Nat.reduceBEq, Nat.reduceLeDiff, Nat.reduceSub] -- r27
      refine ⟨_, _, knownT, ?_⟩
      try simp -implicitDefEqProofs (disch := first | decide | exact of_eq_true (eq_true rfl) | omega | assumption) only [ ↓vcD, vcE, ↓vcG, vcF, evs, evP, evB, intsOf, fillC, Value.cells, pt, Value.oneCell', reduceIte, reduceCtorEq, Nat.reduceEqDiff, Nat.reduceAdd, Nat.reduceMul, Nat.reduceLT, Nat.reduceBEq, Nat.reduceLeDiff, Nat.reduceSub]
      refine ITri.ret ?_; exact EndR.plain (by simp) (by rfl) (by rfl) (by rfl)
    | true =>
      obtain ⟨_, b2, e1, e2⟩ := ws_parts hws
      subst e1 e2
      have hVe := hV
      rw [wor_ok hmo b2] at hVe
      subst hVe
      have hml : ys.length = k := by
        have := (mOK_len hmo).1
        have := (mOK_len b2).1
        omega
      have t5 := t4 ys b2
      have hU := turnR_ok b2 hp
      rw [hw1, hh1] at hU
      have hUl : (trnF w h p ys).length = k := by rw [trn_len]; exact hnl
      have hmx := mOK_mx hmo b2
      have hS0 := turnR_ok hmx hp
      have hSl := len_turn (W := w) (H := h) (xs := mxF xs ys xs.length) (q := p)
      refine ITri.reg pok ?_; simp -implicitDefEqProofs (disch := first | decide | exact of_eq_true (eq_true rfl) | omega | assumption) only [decide_true, Bool.not_true,  ↓vcD, vcE, ↓vcG, vcF, evs, evP, evB, intsOf, fillC, Value.cells, pt, Value.oneCell', reduceIte, reduceCtorEq, Nat.reduceEqDiff, Nat.reduceAdd, Nat.reduceMul, Nat.reduceLT, Nat.reduceBEq, Nat.reduceLeDiff, Nat.reduceSub] -- r26
      refine ITri.cond (v := false) rfl (fun h => by cases h) (fun _ => ?_); refine ITri.skip ?_; simp only [SeqQ_normal, BlkQ_normal]
      refine ITri.seq ?_
      refine ITri.reg pok ?_; simp -implicitDefEqProofs (disch := first | decide | exact of_eq_true (eq_true rfl) | omega | assumption) only [ ↓vcD, vcE, ↓vcG, vcF, evs, evP, evB, intsOf, fillC, Value.cells, pt, Value.oneCell', reduceIte, reduceCtorEq, Nat.reduceEqDiff, Nat.reduceAdd, Nat.reduceMul, Nat.reduceLT, Nat.reduceBEq, Nat.reduceLeDiff, Nat.reduceSub] -- r28
      refine ⟨_, _, own_f hm (by omega) (sees0 rfl (of_decide_eq_true rfl)) (get_hq rfl rfl), ?_⟩
      simp -implicitDefEqProofs (disch := first | decide | exact of_eq_true (eq_true rfl) | omega | assumption) only [news_c, news_n,  ↓vcD, vcE, ↓vcG, vcF, evs, evP, evB, intsOf, fillC, Value.cells, pt, Value.oneCell', reduceIte, reduceCtorEq, Nat.reduceEqDiff, Nat.reduceAdd, Nat.reduceMul, Nat.reduceLT, Nat.reduceBEq, Nat.reduceLeDiff, Nat.reduceSub]
      refine ⟨_, _, turn_f _ hm (by omega) (sees0 rfl (of_decide_eq_true rfl)) (get_hq rfl rfl), ?_⟩
      rw [hU]
      simp -implicitDefEqProofs (disch := first | decide | exact of_eq_true (eq_true rfl) | omega | assumption) only [news_c, news_n, hUl,  ↓vcD, vcE, ↓vcG, vcF, evs, evP, evB, intsOf, fillC, Value.cells, pt, Value.oneCell', reduceIte, reduceCtorEq, Nat.reduceEqDiff, Nat.reduceAdd, Nat.reduceMul, Nat.reduceLT, Nat.reduceBEq, Nat.reduceLeDiff, Nat.reduceSub]
      refine ITri.seq ?_
      refine ITri.reg pok ?_; simp -implicitDefEqProofs (disch := first | decide | exact of_eq_true (eq_true rfl) | omega | assumption) only [ ↓vcD, vcE, ↓vcG, vcF, evs, evP, evB, intsOf, fillC, Value.cells, pt, Value.oneCell', reduceIte, reduceCtorEq, Nat.reduceEqDiff, Nat.reduceAdd, Nat.reduceMul, Nat.reduceLT, Nat.reduceBEq, Nat.reduceLeDiff, Nat.reduceSub] -- r29
      refine ⟨_, _, own_f rfl (by rw [mx_len]; omega) (sees0 rfl (of_decide_eq_true rfl)) (get_hq rfl rfl), ?_⟩
      simp -implicitDefEqProofs (disch := first | decide | exact of_eq_true (eq_true rfl) | omega | assumption) only [news_c, news_n,  ↓vcD, vcE, ↓vcG, vcF, evs, evP, evB, intsOf, fillC, Value.cells, pt, Value.oneCell', reduceIte, reduceCtorEq, Nat.reduceEqDiff, Nat.reduceAdd, Nat.reduceMul, Nat.reduceLT, Nat.reduceBEq, Nat.reduceLeDiff, Nat.reduceSub]
      refine ⟨_, _, turn_f _ rfl (by rw [mx_len]; omega) (sees0 rfl (of_decide_eq_true rfl)) (get_hq rfl rfl), ?_⟩
      generalize hS : turnR w h (mxF xs ys xs.length) p = S at *
      have hSe : S.2.2.2 = 0 := by rw [hS0]
      simp -implicitDefEqProofs (disch := first | decide | exact of_eq_true (eq_true rfl) | omega | assumption) only [news_c, news_n,  ↓vcD, vcE, ↓vcG, vcF, evs, evP, evB, intsOf, fillC, Value.cells, pt, Value.oneCell', reduceIte, reduceCtorEq, Nat.reduceEqDiff, Nat.reduceAdd, Nat.reduceMul, Nat.reduceLT, Nat.reduceBEq, Nat.reduceLeDiff, Nat.reduceSub]
      refine ITri.seq ?_
      refine ITri.draw pok ?_; simp -implicitDefEqProofs (disch := first | decide | exact of_eq_true (eq_true rfl) | omega | assumption) only [ ↓vcD, vcE, ↓vcG, vcF, evs, evP, evB, intsOf, fillC, Value.cells, pt, Value.oneCell', reduceIte, reduceCtorEq, Nat.reduceEqDiff, Nat.reduceAdd, Nat.reduceMul, Nat.reduceLT, Nat.reduceBEq, Nat.reduceLeDiff, Nat.reduceSub] -- r30
      refine ⟨_, _, own_f hXl (by omega) (sees0 rfl (of_decide_eq_true rfl)) (get_hq rfl rfl), ?_⟩
      simp -implicitDefEqProofs (disch := first | decide | exact of_eq_true (eq_true rfl) | omega | assumption) only [news_c, news_n,  ↓vcD, vcE, ↓vcG, vcF, evs, evP, evB, intsOf, fillC, Value.cells, pt, Value.oneCell', reduceIte, reduceCtorEq, Nat.reduceEqDiff, Nat.reduceAdd, Nat.reduceMul, Nat.reduceLT, Nat.reduceBEq, Nat.reduceLeDiff, Nat.reduceSub]
      refine ⟨_, _, own_f hUl (by omega) (sees0 rfl (of_decide_eq_true rfl)) (get_hq rfl rfl), ?_⟩
      simp -implicitDefEqProofs (disch := first | decide | exact of_eq_true (eq_true rfl) | omega | assumption) only [news_c, news_n,  ↓vcD, vcE, ↓vcG, vcF, evs, evP, evB, intsOf, fillC, Value.cells, pt, Value.oneCell', reduceIte, reduceCtorEq, Nat.reduceEqDiff, Nat.reduceAdd, Nat.reduceMul, Nat.reduceLT, Nat.reduceBEq, Nat.reduceLeDiff, Nat.reduceSub]
      refine ⟨_, _, worst_fF worst_bad worst_ok hXl hUl (by omega) (by omega) (sees0 rfl (of_decide_eq_true rfl)) (get_hq rfl rfl) (get_hq rfl rfl), ?_⟩
      rw [t5]
      simp -implicitDefEqProofs (disch := first | decide | exact of_eq_true (eq_true rfl) | omega | assumption) only [news_c, news_n,  ↓vcD, vcE, ↓vcG, vcF, evs, evP, evB, intsOf, fillC, Value.cells, pt, Value.oneCell', reduceIte, reduceCtorEq, Nat.reduceEqDiff, Nat.reduceAdd, Nat.reduceMul, Nat.reduceLT, Nat.reduceBEq, Nat.reduceLeDiff, Nat.reduceSub]
      refine ITri.seq ?_
      refine ITri.reg pok ?_; simp -implicitDefEqProofs (disch := first | decide | exact of_eq_true (eq_true rfl) | omega | assumption) only [hSe, decide_true,  ↓vcD, vcE, ↓vcG, vcF, evs, evP, evB, intsOf, fillC, Value.cells, pt, Value.oneCell', reduceIte, reduceCtorEq, Nat.reduceEqDiff, Nat.reduceAdd, Nat.reduceMul, Nat.reduceLT, Nat.reduceBEq, Nat.reduceLeDiff, Nat.reduceSub] -- r31
      refine ⟨_, _, same_f rfl rfl hSl hSl (sees0 rfl (of_decide_eq_true rfl)) (get_hq rfl rfl) (get_hq rfl rfl), ?_⟩
      rw [same_refl]
      simp -implicitDefEqProofs (disch := first | decide | exact of_eq_true (eq_true rfl) | omega | assumption) only [decide_true,  ↓vcD, vcE, ↓vcG, vcF, evs, evP, evB, intsOf, fillC, Value.cells, pt, Value.oneCell', reduceIte, reduceCtorEq, Nat.reduceEqDiff, Nat.reduceAdd, Nat.reduceMul, Nat.reduceLT, Nat.reduceBEq, Nat.reduceLeDiff, Nat.reduceSub]
      refine ⟨_, _, knownT, ?_⟩
      try simp -implicitDefEqProofs (disch := first | decide | exact of_eq_true (eq_true rfl) | omega | assumption) only [ ↓vcD, vcE, ↓vcG, vcF, evs, evP, evB, intsOf, fillC, Value.cells, pt, Value.oneCell', reduceIte, reduceCtorEq, Nat.reduceEqDiff, Nat.reduceAdd, Nat.reduceMul, Nat.reduceLT, Nat.reduceBEq, Nat.reduceLeDiff, Nat.reduceSub]
      refine ITri.ret ?_; exact EndR.plain (by simp) (by rfl) (by rfl) (by rfl)
end Go.Proofs.YtgjokhodccacoaaDoor
