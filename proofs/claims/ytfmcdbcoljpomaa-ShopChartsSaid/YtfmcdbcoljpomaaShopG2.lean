/-
  Chapter 11, by names: has; the law ShopCharts from its stricter rules on.
-/
import Derived.Test.YtfmcdbcoljpomaaShopG1
import Derived.Test.YtfmcdbcoljpomaaShopFB
set_option linter.unusedSimpArgs false
set_option linter.unusedVariables false
namespace Go.Proofs.Ytfmcdbcoljpomaa
open Go.RowKit Go.Vm
set_option maxRecDepth 100000
theorem eqU (a b : Ru) : cellsEq [false, false, false] [.int .i64 a.1, .int .i64 a.2.1, .int .i64 a.2.2] [.int .i64 b.1, .int .i64 b.2.1, .int .i64 b.2.2] = some (decide (a = b)) := by
  obtain ⟨a1, a2, a3⟩ := a
  obtain ⟨b1, b2, b3⟩ := b
  by_cases h1 : a1 = b1 <;> by_cases h2 : a2 = b2 <;> by_cases h3 : a3 = b3 <;> simp [cellsEq, cellEq, h1, h2, h3]
/- boule/boulelaw11.has · slots 18 · names 0:l 1:a 2:l 3:a 5:i · results [4] -/
def ir22_r0 : IC := .reg [⟨some 3, none, false, .box (.t 1)⟩,
  ⟨some 4, none, false, .mv (.k (.bool false))⟩] (some [0, 3])
def ir22_r1 : IC := .reg [⟨some 5, none, false, .mv (.k (.int .i64 0))⟩] (some [0, 3, 5])
def ir22_r2 : IC := .reg [⟨some 6, none, false, .mv (.t 5)⟩,
  ⟨some 7, none, false, .mv (.t 0)⟩,
  ⟨some 8, none, false, .len (.t 7)⟩,
  ⟨some 9, none, false, .cmp .lss (.t 6) (.t 8)⟩] (some [0, 3, 5, 9])
def ir22_1 : IC := .cond (.t 9) .skip (.exit 0)
def ir22_2 : IC := .seq ir22_r2 ir22_1
def ir22_r4 : IC := .draw [(⟨some 12, none, false, .mv (.t 0)⟩, false, 0, 0),
  (⟨some 13, none, false, .mv (.t 5)⟩, false, 0, 0),
  (⟨some 14, none, false, .iad 3 (.t 12) (.t 13)⟩, false, 3, 0),
  (⟨some 15, none, false, .lda 3 (.t 14)⟩, false, 7, 1),
  (⟨some 16, none, false, .lda 3 (.t 3)⟩, false, 0, 8),
  (⟨some 17, none, false, .eqs false [false, false, false] (.t 15) (.t 16)⟩, false, 31, 0)] (some [0, 3, 5, 17])
def ir22_r5 : IC := .reg [⟨some 4, none, false, .mv (.k (.bool true))⟩] (some [4])
def ir22_3 : IC := .seq ir22_r5 .ret
def ir22_4 : IC := .cond (.t 17) ir22_3 .skip
def ir22_5 : IC := .seq ir22_r4 ir22_4
def ir22_6 : IC := .block 1 ir22_5
def ir22_r3 : IC := .reg [⟨some 10, none, false, .mv (.t 5)⟩,
  ⟨some 11, none, false, .ar .add (.t 10) (.k (.int .i64 1))⟩,
  ⟨some 5, none, false, .mv (.t 11)⟩] (some [0, 3, 5])
def ir22_7 : IC := .seq ir22_6 ir22_r3
def ir22_8 : IC := .seq ir22_2 ir22_7
def ir22_9 : IC := .loop ir22_8
def ir22_10 : IC := .block 0 ir22_9
def ir22_11 : IC := .seq ir22_r1 ir22_10
def ir22_r6 : IC := .reg [⟨some 4, none, false, .mv (.k (.bool false))⟩] (some [4])
def ir22_12 : IC := .seq ir22_r6 .ret
def ir22_13 : IC := .seq ir22_11 ir22_12
def ir22_14 : IC := .seq ir22_r0 ir22_13
def ir22 : IC := ir22_14
theorem fn22 : FnIs Try.prog 22 ir22 18 [.tmp 4] := ⟨Try.f22, Try.f22.body.getD .skip, Try.func22, by kernel_rfl, by kernel_rfl, by kernel_rfl, by kernel_rfl⟩
/- boule/boulelaw11.ShopCharts · slots 319 · names 0:c 1:values 2:cut 3:c 4:values 5:cut 7:l 8:e 9:n 10:few 11:i 12:a 13:r 14:many 15:k 16:turned 17:down 18:i 19:t 20:i 21:strict 22:i 23:r 24:s 25:i · results [6] -/
def ir6_r0 : IC := .reg [⟨some 3, none, false, .box (.t 0)⟩,
  ⟨some 6, none, false, .mv (.k (.bool false))⟩] (some [1, 2, 3])
def ir6_r1 : IC := .reg [⟨some 26, none, false, .fad 1 (.t 3)⟩,
  ⟨some 27, none, false, .ldc (.t 26)⟩,
  ⟨some 28, none, false, .len (.t 27)⟩,
  ⟨some 29, none, false, .cmp .gtr (.t 28) (.k (.int .i64 8))⟩,
  ⟨some 30, none, false, .mv (.t 29)⟩,
  ⟨some 31, some (30, false), false, .mv (.t 1)⟩,
  ⟨some 32, some (30, false), false, .len (.t 31)⟩,
  ⟨some 33, some (30, false), false, .cmp .gtr (.t 32) (.k (.int .i64 200))⟩,
  ⟨some 34, none, false, .pick (.t 30) (.k (.bool true)) (.t 33)⟩] (some [1, 2, 3, 34])
def ir6_r2 : IC := .reg [⟨some 35, none, false, .call (.f 12) []⟩,
  ⟨some 6, none, false, .mv (.t 35)⟩] (some [6])
def ir6_1 : IC := .seq ir6_r2 .ret
def ir6_2 : IC := .cond (.t 34) ir6_1 .skip
def ir6_3 : IC := .seq ir6_r1 ir6_2
def ir6_r3 : IC := .draw [(⟨some 37, none, false, .lda 2 (.t 3)⟩, false, 0, 1),
  (⟨some 38, none, false, .bsl 1 0 [] []⟩, false, 0, 1),
  (⟨some 39, none, false, .mv (.t 1)⟩, false, 0, 0),
  (⟨some 40, none, false, .app 1 8 (.t 38) (.t 39)⟩, false, 6, 1),
  (⟨some 41, none, false, .call (.f 14) [(.t 37), (.t 40)]⟩, true, 15, 1),
  (⟨some 36, none, false, .mv (.t 41)⟩, false, 31, 0),
  (⟨some 42, none, false, .ext (.t 36) 0⟩, false, 63, 0),
  (⟨some 43, none, false, .ext (.t 36) 1⟩, false, 63, 0),
  (⟨some 7, none, false, .mv (.t 42)⟩, false, 127, 0),
  (⟨some 8, none, false, .mv (.t 43)⟩, false, 511, 0)] (some [1, 2, 3, 7, 8])
def ir6_r4 : IC := .reg [⟨some 44, none, false, .mv (.t 8)⟩,
  ⟨some 45, none, false, .cmp .neq (.t 44) (.k (.int .i64 0))⟩] (some [1, 2, 3, 7, 45])
def ir6_r5 : IC := .reg [⟨some 46, none, false, .mv (.t 7)⟩,
  ⟨some 47, none, false, .len (.t 46)⟩,
  ⟨some 48, none, false, .cmp .eql (.t 47) (.k (.int .i64 0))⟩,
  ⟨some 49, none, false, .mv (.t 48)⟩,
  ⟨some 50, some (49, true), false, .call (.f 12) []⟩,
  ⟨some 51, none, false, .pick (.t 49) (.t 50) (.k (.bool false))⟩,
  ⟨some 6, none, false, .mv (.t 51)⟩] (some [6])
def ir6_4 : IC := .seq ir6_r5 .ret
def ir6_5 : IC := .cond (.t 45) ir6_4 .skip
def ir6_6 : IC := .seq ir6_r4 ir6_5
def ir6_r6 : IC := .reg [⟨some 9, none, false, .mv (.k (.int .i64 0))⟩] (some [1, 2, 3, 7, 9])
def ir6_r7 : IC := .reg [⟨some 52, none, false, .mv (.t 1)⟩,
  ⟨some 53, none, false, .len (.t 52)⟩,
  ⟨some 54, none, false, .cmp .gtr (.t 53) (.k (.int .i64 0))⟩] (some [1, 2, 3, 7, 9, 54])
def ir6_r8 : IC := .reg [⟨some 55, none, false, .mv (.t 2)⟩,
  ⟨some 56, none, false, .conv .i64 (.t 55)⟩,
  ⟨some 57, none, false, .mv (.t 1)⟩,
  ⟨some 58, none, false, .len (.t 57)⟩,
  ⟨some 59, none, false, .div .rem (.t 56) (.t 58)⟩,
  ⟨some 9, none, false, .mv (.t 59)⟩] (some [1, 2, 3, 7, 9])
def ir6_7 : IC := .cond (.t 54) ir6_r8 .skip
def ir6_8 : IC := .seq ir6_r7 ir6_7
def ir6_r9 : IC := .draw [(⟨some 61, none, false, .lda 2 (.t 3)⟩, false, 0, 1),
  (⟨some 62, none, false, .bsl 1 0 [] []⟩, false, 0, 1),
  (⟨some 63, none, false, .mv (.t 1)⟩, false, 0, 0),
  (⟨some 64, none, false, .mv (.t 9)⟩, false, 0, 0),
  (⟨some 65, none, false, .gen (.slice 25 (.tmp 63) none (some (.tmp 64)) none)⟩, false, 12, 1),
  (⟨some 66, none, false, .app 1 8 (.t 62) (.t 65)⟩, false, 30, 1),
  (⟨some 67, none, false, .call (.f 14) [(.t 61), (.t 66)]⟩, true, 63, 1),
  (⟨some 60, none, false, .mv (.t 67)⟩, false, 127, 0),
  (⟨some 68, none, false, .ext (.t 60) 0⟩, false, 255, 0),
  (⟨some 69, none, false, .ext (.t 60) 1⟩, false, 255, 0),
  (⟨some 10, none, false, .mv (.t 68)⟩, false, 511, 0),
  (⟨some 8, none, false, .mv (.t 69)⟩, false, 2047, 0)] (some [1, 2, 3, 7, 8, 9, 10])
def ir6_r10 : IC := .reg [⟨some 70, none, false, .mv (.t 8)⟩,
  ⟨some 71, none, false, .cmp .neq (.t 70) (.k (.int .i64 0))⟩,
  ⟨some 72, none, false, .mv (.t 71)⟩,
  ⟨some 73, some (72, false), false, .mv (.t 10)⟩,
  ⟨some 74, some (72, false), false, .len (.t 73)⟩,
  ⟨some 75, some (72, false), false, .mv (.t 7)⟩,
  ⟨some 76, some (72, false), false, .len (.t 75)⟩,
  ⟨some 77, some (72, false), false, .cmp .gtr (.t 74) (.t 76)⟩,
  ⟨some 78, none, false, .pick (.t 72) (.k (.bool true)) (.t 77)⟩] (some [1, 2, 3, 7, 9, 10, 78])
def ir6_r11 : IC := .reg [⟨some 6, none, false, .mv (.k (.bool false))⟩] (some [6])
def ir6_9 : IC := .seq ir6_r11 .ret
def ir6_10 : IC := .cond (.t 78) ir6_9 .skip
def ir6_11 : IC := .seq ir6_r10 ir6_10
def ir6_r12 : IC := .reg [⟨some 11, none, false, .mv (.k (.int .i64 0))⟩] (some [1, 2, 3, 7, 9, 10, 11])
def ir6_r13 : IC := .reg [⟨some 79, none, false, .mv (.t 11)⟩,
  ⟨some 80, none, false, .mv (.t 7)⟩,
  ⟨some 81, none, false, .len (.t 80)⟩,
  ⟨some 82, none, false, .cmp .lss (.t 79) (.t 81)⟩] (some [1, 2, 3, 7, 9, 10, 11, 82])
def ir6_12 : IC := .cond (.t 82) .skip (.exit 0)
def ir6_13 : IC := .seq ir6_r13 ir6_12
def ir6_r15 : IC := .reg [⟨some 85, none, false, .mv (.t 7)⟩,
  ⟨some 86, none, false, .mv (.t 11)⟩,
  ⟨some 87, none, false, .iad 3 (.t 85) (.t 86)⟩,
  ⟨some 88, none, false, .lda 3 (.t 87)⟩,
  ⟨some 12, none, false, .alloc [(.int .i64 0), (.int .i64 0), (.int .i64 0)]⟩,
  ⟨none, none, false, .st 3 (.t 12) (.t 88)⟩] (some [1, 2, 3, 7, 9, 10, 11, 12])
def ir6_r16 : IC := .draw [(⟨some 89, none, false, .fad 0 (.t 12)⟩, false, 0, 0),
  (⟨some 90, none, false, .ldc (.t 89)⟩, true, 1, 1),
  (⟨some 91, none, false, .cmp .lss (.t 90) (.k (.int .i64 0))⟩, false, 3, 0),
  (⟨some 92, none, false, .mv (.t 91)⟩, false, 7, 0),
  (⟨some 93, some (92, false), false, .fad 0 (.t 12)⟩, false, 15, 0),
  (⟨some 94, some (92, false), false, .ldc (.t 93)⟩, false, 31, 1),
  (⟨some 95, some (92, false), false, .mv (.t 1)⟩, false, 15, 0),
  (⟨some 96, some (92, false), false, .len (.t 95)⟩, false, 79, 32),
  (⟨some 97, some (92, false), false, .cmp .geq (.t 94) (.t 96)⟩, false, 255, 0),
  (⟨some 98, none, false, .pick (.t 92) (.k (.bool true)) (.t 97)⟩, false, 511, 0),
  (⟨some 99, none, false, .mv (.t 98)⟩, false, 1023, 0),
  (⟨some 100, some (99, false), false, .fad 1 (.t 12)⟩, false, 2047, 0),
  (⟨some 101, some (99, false), false, .ldc (.t 100)⟩, true, 4095, 1),
  (⟨some 102, some (99, false), false, .cmp .lss (.t 101) (.k (.int .i64 0))⟩, false, 8191, 0),
  (⟨some 103, none, false, .pick (.t 99) (.k (.bool true)) (.t 102)⟩, false, 16383, 0),
  (⟨some 104, none, false, .mv (.t 103)⟩, false, 32767, 0),
  (⟨some 105, some (104, false), false, .fad 1 (.t 12)⟩, false, 65535, 0),
  (⟨some 106, some (104, false), false, .ldc (.t 105)⟩, false, 131071, 1),
  (⟨some 107, some (104, false), false, .fad 1 (.t 3)⟩, false, 65535, 0),
  (⟨some 108, some (104, false), false, .ldc (.t 107)⟩, false, 327679, 131072),
  (⟨some 109, some (104, false), false, .len (.t 108)⟩, false, 851967, 131072),
  (⟨some 110, some (104, false), false, .cmp .geq (.t 106) (.t 109)⟩, false, 2097151, 0),
  (⟨some 111, none, false, .pick (.t 104) (.k (.bool true)) (.t 110)⟩, false, 4194303, 0),
  (⟨some 112, none, false, .mv (.t 111)⟩, false, 8388607, 0),
  (⟨some 113, some (112, false), false, .fad 2 (.t 12)⟩, false, 16777215, 0),
  (⟨some 114, some (112, false), false, .ldc (.t 113)⟩, true, 33554431, 1),
  (⟨some 115, some (112, false), false, .cmp .neq (.t 114) (.k (.int .i64 1))⟩, false, 67108863, 0),
  (⟨some 116, some (112, false), false, .mv (.t 115)⟩, false, 134217727, 0),
  (⟨some 117, some (116, true), false, .fad 2 (.t 12)⟩, false, 268435455, 0),
  (⟨some 118, some (116, true), false, .ldc (.t 117)⟩, true, 536870911, 1),
  (⟨some 119, some (116, true), false, .cmp .neq (.t 118) (.k (.int .i64 (-1)))⟩, false, 1073741823, 0),
  (⟨some 120, some (112, false), false, .pick (.t 116) (.t 119) (.k (.bool false))⟩, false, 2147483647, 0),
  (⟨some 121, none, false, .pick (.t 112) (.k (.bool true)) (.t 120)⟩, false, 4294967295, 0),
  (⟨some 122, none, false, .mv (.t 121)⟩, false, 8589934591, 0),
  (⟨some 123, some (122, false), false, .fad 0 (.t 12)⟩, false, 17179869183, 0),
  (⟨some 124, some (122, false), false, .ldc (.t 123)⟩, false, 34359738367, 1),
  (⟨some 125, some (122, false), false, .mv (.t 9)⟩, false, 17179869183, 0),
  (⟨some 126, some (122, false), false, .cmp .lss (.t 124) (.t 125)⟩, false, 137438953471, 0),
  (⟨some 127, some (122, false), false, .mv (.t 11)⟩, false, 17179869183, 0),
  (⟨some 128, some (122, false), false, .mv (.t 10)⟩, false, 17179869183, 0),
  (⟨some 129, some (122, false), false, .len (.t 128)⟩, false, 566935683071, 34359738368),
  (⟨some 130, some (122, false), false, .cmp .lss (.t 127) (.t 129)⟩, false, 1941325217791, 0),
  (⟨some 131, some (122, false), false, .cmpb true (.t 126) (.t 130)⟩, false, 4398046511103, 0),
  (⟨some 132, none, false, .pick (.t 122) (.k (.bool true)) (.t 131)⟩, false, 8796093022207, 0),
  (⟨some 133, none, false, .mv (.t 132)⟩, false, 17592186044415, 0),
  (⟨some 134, some (133, false), false, .mv (.t 11)⟩, false, 35184372088831, 0),
  (⟨some 135, some (133, false), false, .mv (.t 10)⟩, false, 35184372088831, 0),
  (⟨some 136, some (133, false), false, .len (.t 135)⟩, true, 105553116266495, 1),
  (⟨some 137, some (133, false), false, .cmp .lss (.t 134) (.t 136)⟩, false, 281474976710655, 0),
  (⟨some 138, some (133, false), false, .mv (.t 137)⟩, false, 562949953421311, 0),
  (⟨some 139, some (138, true), false, .mv (.t 10)⟩, false, 1125899906842623, 0),
  (⟨some 140, some (138, true), false, .mv (.t 11)⟩, false, 1125899906842623, 0),
  (⟨some 141, some (138, true), false, .iad 3 (.t 139) (.t 140)⟩, false, 4503599627370495, 0),
  (⟨some 142, some (138, true), false, .lda 3 (.t 141)⟩, false, 9007199254740991, 1),
  (⟨some 143, some (138, true), false, .lda 3 (.t 12)⟩, false, 1125899906842623, 9007199254740992),
  (⟨some 144, some (138, true), false, .eqs true [false, false, false] (.t 142) (.t 143)⟩, false, 36028797018963967, 0),
  (⟨some 145, some (133, false), false, .pick (.t 138) (.t 144) (.k (.bool false))⟩, false, 72057594037927935, 0),
  (⟨some 146, none, false, .pick (.t 133) (.k (.bool true)) (.t 145)⟩, false, 144115188075855871, 0)] (some [1, 2, 3, 7, 9, 10, 11, 12, 146])
def ir6_r17 : IC := .reg [⟨some 6, none, false, .mv (.k (.bool false))⟩] (some [6])
def ir6_14 : IC := .seq ir6_r17 .ret
def ir6_15 : IC := .cond (.t 146) ir6_14 .skip
def ir6_16 : IC := .seq ir6_r16 ir6_15
def ir6_r18 : IC := .reg [⟨some 147, none, false, .fad 1 (.t 3)⟩,
  ⟨some 148, none, false, .ldc (.t 147)⟩,
  ⟨some 149, none, false, .fad 1 (.t 12)⟩,
  ⟨some 150, none, false, .ldc (.t 149)⟩,
  ⟨some 151, none, false, .iad 3 (.t 148) (.t 150)⟩,
  ⟨some 152, none, false, .lda 3 (.t 151)⟩,
  ⟨some 13, none, false, .alloc [(.int .i64 0), (.int .i64 0), (.int .i64 0)]⟩,
  ⟨none, none, false, .st 3 (.t 13) (.t 152)⟩,
  ⟨some 14, none, false, .mv (.k (.int .i64 0))⟩] (some [1, 2, 3, 7, 9, 10, 11, 12, 13, 14])
def ir6_r19 : IC := .reg [⟨some 153, none, false, .fad 0 (.t 12)⟩,
  ⟨some 154, none, false, .ldc (.t 153)⟩,
  ⟨some 15, none, false, .mv (.t 154)⟩] (some [1, 2, 3, 7, 9, 10, 11, 12, 13, 14, 15])
def ir6_r20 : IC := .reg [⟨some 155, none, false, .mv (.t 15)⟩,
  ⟨some 156, none, false, .cmp .geq (.t 155) (.k (.int .i64 0))⟩,
  ⟨some 157, none, false, .mv (.t 156)⟩,
  ⟨some 158, some (157, true), false, .mv (.t 15)⟩,
  ⟨some 159, some (157, true), false, .fad 0 (.t 12)⟩,
  ⟨some 160, some (157, true), false, .ldc (.t 159)⟩,
  ⟨some 161, some (157, true), false, .fad 1 (.t 13)⟩,
  ⟨some 162, some (157, true), false, .ldc (.t 161)⟩,
  ⟨some 163, some (157, true), false, .ar .sub (.t 160) (.t 162)⟩,
  ⟨some 164, some (157, true), false, .cmp .gtr (.t 158) (.t 163)⟩,
  ⟨some 165, none, false, .pick (.t 157) (.t 164) (.k (.bool false))⟩] (some [1, 2, 3, 7, 9, 10, 11, 12, 13, 14, 15, 165])
def ir6_17 : IC := .cond (.t 165) .skip (.exit 2)
def ir6_18 : IC := .seq ir6_r20 ir6_17
def ir6_r22 : IC := .draw [(⟨some 168, none, false, .fad 2 (.t 12)⟩, false, 0, 0),
  (⟨some 169, none, false, .ldc (.t 168)⟩, false, 1, 1),
  (⟨some 170, none, false, .mv (.t 1)⟩, false, 0, 0),
  (⟨some 171, none, false, .mv (.t 15)⟩, false, 0, 0),
  (⟨some 172, none, false, .iad 1 (.t 170) (.t 171)⟩, false, 12, 0),
  (⟨some 173, none, false, .ldc (.t 172)⟩, false, 28, 2),
  (⟨some 174, none, false, .fad 0 (.t 3)⟩, false, 0, 0),
  (⟨some 175, none, false, .ldc (.t 174)⟩, false, 64, 30),
  (⟨some 176, none, false, .ar .sub (.t 173) (.t 175)⟩, false, 252, 0),
  (⟨some 177, none, false, .ar .mul (.t 169) (.t 176)⟩, false, 511, 0),
  (⟨some 178, none, false, .fad 2 (.t 13)⟩, false, 0, 0),
  (⟨some 179, none, false, .ldc (.t 178)⟩, false, 1024, 94),
  (⟨some 180, none, false, .cmp .gtr (.t 177) (.t 179)⟩, false, 4095, 0)] (some [1, 2, 3, 7, 9, 10, 11, 12, 13, 14, 15, 180])
def ir6_r23 : IC := .reg [⟨some 181, none, false, .mv (.t 14)⟩,
  ⟨some 182, none, false, .ar .add (.t 181) (.k (.int .i64 1))⟩,
  ⟨some 14, none, false, .mv (.t 182)⟩] (some [1, 2, 3, 7, 9, 10, 11, 12, 13, 14, 15])
def ir6_19 : IC := .cond (.t 180) ir6_r23 .skip
def ir6_20 : IC := .seq ir6_r22 ir6_19
def ir6_21 : IC := .block 3 ir6_20
def ir6_r21 : IC := .reg [⟨some 166, none, false, .mv (.t 15)⟩,
  ⟨some 167, none, false, .ar .sub (.t 166) (.k (.int .i64 1))⟩,
  ⟨some 15, none, false, .mv (.t 167)⟩] (some [1, 2, 3, 7, 9, 10, 11, 12, 13, 14, 15])
def ir6_22 : IC := .seq ir6_21 ir6_r21
def ir6_23 : IC := .seq ir6_18 ir6_22
def ir6_24 : IC := .loop ir6_23
def ir6_25 : IC := .block 2 ir6_24
def ir6_26 : IC := .seq ir6_r19 ir6_25
def ir6_r24 : IC := .reg [⟨some 183, none, false, .mv (.t 14)⟩,
  ⟨some 184, none, false, .fad 0 (.t 13)⟩,
  ⟨some 185, none, false, .ldc (.t 184)⟩,
  ⟨some 186, none, false, .cmp .lss (.t 183) (.t 185)⟩] (some [1, 2, 3, 7, 9, 10, 11, 186])
def ir6_r25 : IC := .reg [⟨some 6, none, false, .mv (.k (.bool false))⟩] (some [6])
def ir6_27 : IC := .seq ir6_r25 .ret
def ir6_28 : IC := .cond (.t 186) ir6_27 .skip
def ir6_29 : IC := .seq ir6_r24 ir6_28
def ir6_30 : IC := .seq ir6_26 ir6_29
def ir6_31 : IC := .seq ir6_r18 ir6_30
def ir6_32 : IC := .seq ir6_16 ir6_31
def ir6_33 : IC := .seq ir6_r15 ir6_32
def ir6_34 : IC := .block 1 ir6_33
def ir6_r14 : IC := .reg [⟨some 83, none, false, .mv (.t 11)⟩,
  ⟨some 84, none, false, .ar .add (.t 83) (.k (.int .i64 1))⟩,
  ⟨some 11, none, false, .mv (.t 84)⟩] (some [1, 2, 3, 7, 9, 10, 11])
def ir6_35 : IC := .seq ir6_34 ir6_r14
def ir6_36 : IC := .seq ir6_13 ir6_35
def ir6_37 : IC := .loop ir6_36
def ir6_38 : IC := .block 0 ir6_37
def ir6_39 : IC := .seq ir6_r12 ir6_38
def ir6_r26 : IC := .draw [(⟨some 187, none, false, .fad 0 (.t 3)⟩, false, 0, 0),
  (⟨some 188, none, false, .ldc (.t 187)⟩, false, 1, 1),
  (⟨some 189, none, false, .neg (.t 188)⟩, false, 3, 0),
  (⟨some 190, none, false, .bsl 3 0 [] []⟩, false, 0, 2),
  (⟨some 191, none, false, .fad 1 (.t 3)⟩, false, 0, 0),
  (⟨some 192, none, false, .ldc (.t 191)⟩, false, 16, 2),
  (⟨some 193, none, false, .app 3 24 (.t 190) (.t 192)⟩, false, 56, 2),
  (⟨some 194, none, false, .bld [(.int .i64 0), (.slice none 0 0)] [(0, 1, (.t 189)), (1, 1, (.t 193))]⟩, false, 127, 0),
  (⟨some 195, none, false, .bsl 1 0 [] []⟩, false, 0, 58),
  (⟨some 16, none, false, .alloc [(.int .i64 0), (.slice none 0 0)]⟩, false, 0, 58),
  (⟨none, none, false, .st 2 (.t 16) (.t 194)⟩, false, 767, 1),
  (⟨some 17, none, false, .mv (.t 195)⟩, false, 2047, 0)] (some [1, 2, 3, 7, 16, 17])
def ir6_r27 : IC := .reg [⟨some 18, none, false, .mv (.k (.int .i64 0))⟩] (some [1, 2, 3, 7, 16, 17, 18])
def ir6_r28 : IC := .reg [⟨some 196, none, false, .mv (.t 18)⟩,
  ⟨some 197, none, false, .mv (.t 1)⟩,
  ⟨some 198, none, false, .len (.t 197)⟩,
  ⟨some 199, none, false, .cmp .lss (.t 196) (.t 198)⟩] (some [1, 2, 3, 7, 16, 17, 18, 199])
def ir6_40 : IC := .cond (.t 199) .skip (.exit 4)
def ir6_41 : IC := .seq ir6_r28 ir6_40
def ir6_r30 : IC := .reg [⟨some 202, none, false, .mv (.t 17)⟩,
  ⟨some 203, none, false, .mv (.t 1)⟩,
  ⟨some 204, none, false, .mv (.t 18)⟩,
  ⟨some 205, none, false, .iad 1 (.t 203) (.t 204)⟩,
  ⟨some 206, none, false, .ldc (.t 205)⟩,
  ⟨some 207, none, false, .neg (.t 206)⟩,
  ⟨some 208, none, false, .bsl 1 1 [(.int .i64 0)] [(0, (.t 207))]⟩,
  ⟨some 209, none, false, .app 1 8 (.t 202) (.t 208)⟩,
  ⟨some 17, none, false, .mv (.t 209)⟩] (some [1, 2, 3, 7, 16, 17, 18])
def ir6_42 : IC := .block 5 ir6_r30
def ir6_r29 : IC := .reg [⟨some 200, none, false, .mv (.t 18)⟩,
  ⟨some 201, none, false, .ar .add (.t 200) (.k (.int .i64 1))⟩,
  ⟨some 18, none, false, .mv (.t 201)⟩] (some [1, 2, 3, 7, 16, 17, 18])
def ir6_43 : IC := .seq ir6_42 ir6_r29
def ir6_44 : IC := .seq ir6_41 ir6_43
def ir6_45 : IC := .loop ir6_44
def ir6_46 : IC := .block 4 ir6_45
def ir6_47 : IC := .seq ir6_r27 ir6_46
def ir6_r31 : IC := .reg [⟨some 211, none, false, .lda 2 (.t 16)⟩,
  ⟨some 212, none, false, .mv (.t 17)⟩,
  ⟨some 213, none, false, .call (.f 14) [(.t 211), (.t 212)]⟩,
  ⟨some 210, none, false, .mv (.t 213)⟩,
  ⟨some 214, none, false, .ext (.t 210) 0⟩,
  ⟨some 215, none, false, .ext (.t 210) 1⟩,
  ⟨some 19, none, false, .mv (.t 214)⟩,
  ⟨some 8, none, false, .mv (.t 215)⟩] (some [1, 2, 3, 7, 8, 19])
def ir6_r32 : IC := .reg [⟨some 216, none, false, .mv (.t 8)⟩,
  ⟨some 217, none, false, .cmp .neq (.t 216) (.k (.int .i64 0))⟩,
  ⟨some 218, none, false, .mv (.t 217)⟩,
  ⟨some 219, some (218, false), false, .mv (.t 19)⟩,
  ⟨some 220, some (218, false), false, .len (.t 219)⟩,
  ⟨some 221, some (218, false), false, .mv (.t 7)⟩,
  ⟨some 222, some (218, false), false, .len (.t 221)⟩,
  ⟨some 223, some (218, false), false, .cmp .neq (.t 220) (.t 222)⟩,
  ⟨some 224, none, false, .pick (.t 218) (.k (.bool true)) (.t 223)⟩] (some [1, 2, 3, 7, 19, 224])
def ir6_r33 : IC := .reg [⟨some 6, none, false, .mv (.k (.bool false))⟩] (some [6])
def ir6_48 : IC := .seq ir6_r33 .ret
def ir6_49 : IC := .cond (.t 224) ir6_48 .skip
def ir6_50 : IC := .seq ir6_r32 ir6_49
def ir6_r34 : IC := .reg [⟨some 20, none, false, .mv (.k (.int .i64 0))⟩] (some [1, 2, 3, 7, 19, 20])
def ir6_r35 : IC := .reg [⟨some 225, none, false, .mv (.t 20)⟩,
  ⟨some 226, none, false, .mv (.t 7)⟩,
  ⟨some 227, none, false, .len (.t 226)⟩,
  ⟨some 228, none, false, .cmp .lss (.t 225) (.t 227)⟩] (some [1, 2, 3, 7, 19, 20, 228])
def ir6_51 : IC := .cond (.t 228) .skip (.exit 6)
def ir6_52 : IC := .seq ir6_r35 ir6_51
def ir6_r37 : IC := .draw [(⟨some 231, none, false, .mv (.t 19)⟩, false, 0, 0),
  (⟨some 232, none, false, .mv (.t 20)⟩, false, 0, 0),
  (⟨some 233, none, false, .iad 3 (.t 231) (.t 232)⟩, false, 3, 0),
  (⟨some 234, none, false, .lda 3 (.t 233)⟩, false, 7, 1),
  (⟨some 235, none, false, .mv (.t 7)⟩, false, 0, 0),
  (⟨some 236, none, false, .mv (.t 20)⟩, false, 0, 0),
  (⟨some 237, none, false, .iad 3 (.t 235) (.t 236)⟩, false, 48, 0),
  (⟨some 238, none, false, .fad 0 (.t 237)⟩, false, 112, 0),
  (⟨some 239, none, false, .ldc (.t 238)⟩, false, 240, 8),
  (⟨some 240, none, false, .mv (.t 7)⟩, false, 0, 0),
  (⟨some 241, none, false, .mv (.t 20)⟩, false, 0, 0),
  (⟨some 242, none, false, .iad 3 (.t 240) (.t 241)⟩, false, 1536, 0),
  (⟨some 243, none, false, .fad 1 (.t 242)⟩, false, 3584, 0),
  (⟨some 244, none, false, .ldc (.t 243)⟩, false, 7680, 248),
  (⟨some 245, none, false, .mv (.t 7)⟩, false, 0, 0),
  (⟨some 246, none, false, .mv (.t 20)⟩, false, 0, 0),
  (⟨some 247, none, false, .iad 3 (.t 245) (.t 246)⟩, false, 49152, 0),
  (⟨some 248, none, false, .fad 2 (.t 247)⟩, false, 114688, 0),
  (⟨some 249, none, false, .ldc (.t 248)⟩, false, 245760, 7928),
  (⟨some 250, none, false, .neg (.t 249)⟩, false, 507904, 0),
  (⟨some 251, none, false, .bld [(.int .i64 0), (.int .i64 0), (.int .i64 0)] [(0, 1, (.t 239)), (1, 1, (.t 244)), (2, 1, (.t 250))]⟩, false, 1048560, 0),
  (⟨some 252, none, false, .eqs true [false, false, false] (.t 234) (.t 251)⟩, false, 2097151, 0)] (some [1, 2, 3, 7, 19, 20, 252])
def ir6_r38 : IC := .reg [⟨some 6, none, false, .mv (.k (.bool false))⟩] (some [6])
def ir6_53 : IC := .seq ir6_r38 .ret
def ir6_54 : IC := .cond (.t 252) ir6_53 .skip
def ir6_55 : IC := .seq ir6_r37 ir6_54
def ir6_56 : IC := .block 7 ir6_55
def ir6_r36 : IC := .reg [⟨some 229, none, false, .mv (.t 20)⟩,
  ⟨some 230, none, false, .ar .add (.t 229) (.k (.int .i64 1))⟩,
  ⟨some 20, none, false, .mv (.t 230)⟩] (some [1, 2, 3, 7, 19, 20])
def ir6_57 : IC := .seq ir6_56 ir6_r36
def ir6_58 : IC := .seq ir6_52 ir6_57
def ir6_59 : IC := .loop ir6_58
def ir6_60 : IC := .block 6 ir6_59
def ir6_61 : IC := .seq ir6_r34 ir6_60
def ir6_r39 : IC := .reg [⟨some 253, none, false, .fad 0 (.t 3)⟩,
  ⟨some 254, none, false, .ldc (.t 253)⟩,
  ⟨some 255, none, false, .bld [(.int .i64 0), (.slice none 0 0)] [(0, 1, (.t 254))]⟩,
  ⟨some 21, none, false, .alloc [(.int .i64 0), (.slice none 0 0)]⟩,
  ⟨none, none, false, .st 2 (.t 21) (.t 255)⟩] (some [1, 2, 3, 7, 21])
def ir6_r40 : IC := .reg [⟨some 22, none, false, .mv (.k (.int .i64 0))⟩] (some [1, 2, 3, 7, 21, 22])
def ir6_r41 : IC := .reg [⟨some 256, none, false, .mv (.t 22)⟩,
  ⟨some 257, none, false, .fad 1 (.t 3)⟩,
  ⟨some 258, none, false, .ldc (.t 257)⟩,
  ⟨some 259, none, false, .len (.t 258)⟩,
  ⟨some 260, none, false, .cmp .lss (.t 256) (.t 259)⟩] (some [1, 2, 3, 7, 21, 22, 260])
def ir6_62 : IC := .cond (.t 260) .skip (.exit 8)
def ir6_63 : IC := .seq ir6_r41 ir6_62
def ir6_r43 : IC := .reg [⟨some 263, none, false, .fad 1 (.t 3)⟩,
  ⟨some 264, none, false, .ldc (.t 263)⟩,
  ⟨some 265, none, false, .mv (.t 22)⟩,
  ⟨some 266, none, false, .iad 3 (.t 264) (.t 265)⟩,
  ⟨some 267, none, false, .lda 3 (.t 266)⟩,
  ⟨some 23, none, false, .alloc [(.int .i64 0), (.int .i64 0), (.int .i64 0)]⟩,
  ⟨none, none, false, .st 3 (.t 23) (.t 267)⟩] (some [1, 2, 3, 7, 21, 22, 23])
def ir6_r44 : IC := .reg [⟨some 268, none, false, .fad 0 (.t 23)⟩,
  ⟨some 269, none, false, .ldc (.t 268)⟩,
  ⟨some 270, none, false, .fad 1 (.t 23)⟩,
  ⟨some 271, none, false, .ldc (.t 270)⟩,
  ⟨some 272, none, false, .cmp .lss (.t 269) (.t 271)⟩,
  ⟨some 273, none, false, .mv (.t 272)⟩,
  ⟨some 274, some (273, true), false, .mv (.t 2)⟩,
  ⟨some 275, some (273, true), false, .div .rem (.t 274) (.k (.int .u8 2))⟩,
  ⟨some 276, some (273, true), false, .cmp .eql (.t 275) (.k (.int .u8 0))⟩,
  ⟨some 277, none, false, .pick (.t 273) (.t 276) (.k (.bool false))⟩] (some [1, 2, 3, 7, 21, 22, 23, 277])
def ir6_r45 : IC := .reg [⟨some 278, none, false, .fad 0 (.t 23)⟩,
  ⟨some 279, none, false, .ldc (.t 278)⟩,
  ⟨some 280, none, false, .ar .add (.t 279) (.k (.int .i64 1))⟩,
  ⟨some 281, none, false, .fad 0 (.t 23)⟩,
  ⟨none, none, false, .st 1 (.t 281) (.t 280)⟩] (some [1, 2, 3, 7, 21, 22, 23])
def ir6_r46 : IC := .reg [⟨some 282, none, false, .fad 2 (.t 23)⟩,
  ⟨some 283, none, false, .ldc (.t 282)⟩,
  ⟨some 284, none, false, .cmp .lss (.t 283) (.k (.int .i64 1000000))⟩] (some [1, 2, 3, 7, 21, 22, 23, 284])
def ir6_r47 : IC := .reg [⟨some 285, none, false, .fad 2 (.t 23)⟩,
  ⟨some 286, none, false, .ldc (.t 285)⟩,
  ⟨some 287, none, false, .ar .add (.t 286) (.k (.int .i64 1))⟩,
  ⟨some 288, none, false, .fad 2 (.t 23)⟩,
  ⟨none, none, false, .st 1 (.t 288) (.t 287)⟩] (some [1, 2, 3, 7, 21, 22, 23])
def ir6_64 : IC := .cond (.t 284) ir6_r47 .skip
def ir6_65 : IC := .seq ir6_r46 ir6_64
def ir6_66 : IC := .cond (.t 277) ir6_r45 ir6_65
def ir6_67 : IC := .seq ir6_r44 ir6_66
def ir6_r48 : IC := .reg [⟨some 289, none, false, .fad 1 (.t 21)⟩,
  ⟨some 290, none, false, .ldc (.t 289)⟩,
  ⟨some 291, none, false, .lda 3 (.t 23)⟩,
  ⟨some 292, none, false, .bsl 3 1 [(.int .i64 0), (.int .i64 0), (.int .i64 0)] [(0, (.t 291))]⟩,
  ⟨some 293, none, false, .app 3 24 (.t 290) (.t 292)⟩,
  ⟨some 294, none, false, .fad 1 (.t 21)⟩,
  ⟨none, none, false, .st 1 (.t 294) (.t 293)⟩] (some [1, 2, 3, 7, 21, 22])
def ir6_68 : IC := .seq ir6_67 ir6_r48
def ir6_69 : IC := .seq ir6_r43 ir6_68
def ir6_70 : IC := .block 9 ir6_69
def ir6_r42 : IC := .reg [⟨some 261, none, false, .mv (.t 22)⟩,
  ⟨some 262, none, false, .ar .add (.t 261) (.k (.int .i64 1))⟩,
  ⟨some 22, none, false, .mv (.t 262)⟩] (some [1, 2, 3, 7, 21, 22])
def ir6_71 : IC := .seq ir6_70 ir6_r42
def ir6_72 : IC := .seq ir6_63 ir6_71
def ir6_73 : IC := .loop ir6_72
def ir6_74 : IC := .block 8 ir6_73
def ir6_75 : IC := .seq ir6_r40 ir6_74
def ir6_r49 : IC := .draw [(⟨some 296, none, false, .lda 2 (.t 21)⟩, false, 0, 1),
  (⟨some 297, none, false, .bsl 1 0 [] []⟩, false, 0, 1),
  (⟨some 298, none, false, .mv (.t 1)⟩, false, 0, 0),
  (⟨some 299, none, false, .app 1 8 (.t 297) (.t 298)⟩, false, 6, 1),
  (⟨some 300, none, false, .call (.f 14) [(.t 296), (.t 299)]⟩, true, 15, 1),
  (⟨some 295, none, false, .mv (.t 300)⟩, false, 31, 0),
  (⟨some 301, none, false, .ext (.t 295) 0⟩, false, 63, 0),
  (⟨some 302, none, false, .ext (.t 295) 1⟩, false, 63, 0),
  (⟨some 24, none, false, .mv (.t 301)⟩, false, 127, 0),
  (⟨some 8, none, false, .mv (.t 302)⟩, false, 511, 0)] (some [7, 8, 24])
def ir6_r50 : IC := .reg [⟨some 303, none, false, .mv (.t 8)⟩,
  ⟨some 304, none, false, .cmp .neq (.t 303) (.k (.int .i64 0))⟩] (some [7, 24, 304])
def ir6_r51 : IC := .reg [⟨some 6, none, false, .mv (.k (.bool false))⟩] (some [6])
def ir6_76 : IC := .seq ir6_r51 .ret
def ir6_77 : IC := .cond (.t 304) ir6_76 .skip
def ir6_78 : IC := .seq ir6_r50 ir6_77
def ir6_r52 : IC := .reg [⟨some 25, none, false, .mv (.k (.int .i64 0))⟩] (some [7, 24, 25])
def ir6_r53 : IC := .reg [⟨some 305, none, false, .mv (.t 25)⟩,
  ⟨some 306, none, false, .mv (.t 24)⟩,
  ⟨some 307, none, false, .len (.t 306)⟩,
  ⟨some 308, none, false, .cmp .lss (.t 305) (.t 307)⟩] (some [7, 24, 25, 308])
def ir6_79 : IC := .cond (.t 308) .skip (.exit 10)
def ir6_80 : IC := .seq ir6_r53 ir6_79
def ir6_r55 : IC := .reg [⟨some 311, none, false, .mv (.t 7)⟩,
  ⟨some 312, none, false, .mv (.t 24)⟩,
  ⟨some 313, none, false, .mv (.t 25)⟩,
  ⟨some 314, none, false, .iad 3 (.t 312) (.t 313)⟩,
  ⟨some 315, none, false, .lda 3 (.t 314)⟩,
  ⟨some 316, none, false, .call (.f 22) [(.t 311), (.t 315)]⟩,
  ⟨some 317, none, false, .not (.t 316)⟩] (some [7, 24, 25, 317])
def ir6_r56 : IC := .reg [⟨some 6, none, false, .mv (.k (.bool false))⟩] (some [6])
def ir6_81 : IC := .seq ir6_r56 .ret
def ir6_82 : IC := .cond (.t 317) ir6_81 .skip
def ir6_83 : IC := .seq ir6_r55 ir6_82
def ir6_84 : IC := .block 11 ir6_83
def ir6_r54 : IC := .reg [⟨some 309, none, false, .mv (.t 25)⟩,
  ⟨some 310, none, false, .ar .add (.t 309) (.k (.int .i64 1))⟩,
  ⟨some 25, none, false, .mv (.t 310)⟩] (some [7, 24, 25])
def ir6_85 : IC := .seq ir6_84 ir6_r54
def ir6_86 : IC := .seq ir6_80 ir6_85
def ir6_87 : IC := .loop ir6_86
def ir6_88 : IC := .block 10 ir6_87
def ir6_89 : IC := .seq ir6_r52 ir6_88
def ir6_r57 : IC := .reg [⟨some 318, none, false, .call (.f 12) []⟩,
  ⟨some 6, none, false, .mv (.t 318)⟩] (some [6])
def ir6_90 : IC := .seq ir6_r57 .ret
def ir6_91 : IC := .seq ir6_89 ir6_90
def ir6_92 : IC := .seq ir6_78 ir6_91
def ir6_93 : IC := .seq ir6_r49 ir6_92
def ir6_94 : IC := .seq ir6_75 ir6_93
def ir6_95 : IC := .seq ir6_r39 ir6_94
def ir6_96 : IC := .seq ir6_61 ir6_95
def ir6_97 : IC := .seq ir6_50 ir6_96
def ir6_98 : IC := .seq ir6_r31 ir6_97
def ir6_99 : IC := .seq ir6_47 ir6_98
def ir6_100 : IC := .seq ir6_r26 ir6_99
def ir6_101 : IC := .seq ir6_39 ir6_100
def ir6_102 : IC := .seq ir6_11 ir6_101
def ir6_103 : IC := .seq ir6_r9 ir6_102
def ir6_104 : IC := .seq ir6_8 ir6_103
def ir6_105 : IC := .seq ir6_r6 ir6_104
def ir6_106 : IC := .seq ir6_6 ir6_105
def ir6_107 : IC := .seq ir6_r3 ir6_106
def ir6_108 : IC := .seq ir6_3 ir6_107
def ir6_109 : IC := .seq ir6_r0 ir6_108
def ir6 : IC := ir6_109
theorem fn6 : FnIs Try.prog 6 ir6 319 [.tmp 6] := ⟨Try.f6, Try.f6.body.getD .skip, Try.func6, by kernel_rfl, by kernel_rfl, by kernel_rfl, by kernel_rfl⟩
theorem has_c (n c : Nat) (l : List Al) (x : Al) (hn : l.length = n) (hb : n ≤ 1000000) (hx : x ∈ l) :
    Fc Try.prog 22 [.slice (some ⟨1, 0, none⟩) n c, uV x] (Hp 2 [none, some (.cells ⟨rows eU l, 0, false⟩)]) (.bool true) (Hp 2 [none, some (.cells ⟨rows eU l, 0, false⟩)]) := by
  refine Fc.intro0 fn22 (by simp) rfl rfl ?_; simp only [argF]
  refine ITri.seq ?_
  refine ITri.reg pokT ?_; simp -implicitDefEqProofs (disch := first | decide | exact of_eq_true (eq_true rfl) | omega | assumption) only [ ↓vcD, vcE, evs, evP, evB, intsOf, fillC, Value.cells, pt, List.append_nil, List.nil_append, List.cons_append, List.length_cons, List.length_nil, List.filter_nil, List.map_nil, ↓List.getElem?_cons_zero, ↓List.getElem?_cons_succ, List.getElem?_cons_zero, List.getElem?_cons_succ, List.set_cons_zero, List.set_cons_succ, Option.join_some, Option.join_none, Option.map_some, List.all_cons, List.all_nil, Value.oneCell', reduceIte, reduceCtorEq, Nat.reduceEqDiff, Nat.reduceAdd, Nat.reduceMul, Nat.reduceLT, Nat.reduceBEq, Nat.reduceLeDiff, Nat.reduceSub, List.size_toArray] -- r0
  refine ITri.seq ?_
  refine ITri.seq ?_
  refine ITri.reg pokT ?_; simp -implicitDefEqProofs (disch := first | decide | exact of_eq_true (eq_true rfl) | omega | assumption) only [ ↓vcD, vcE, evs, evP, evB, intsOf, fillC, Value.cells, pt, List.append_nil, List.nil_append, List.cons_append, List.length_cons, List.length_nil, List.filter_nil, List.map_nil, ↓List.getElem?_cons_zero, ↓List.getElem?_cons_succ, List.getElem?_cons_zero, List.getElem?_cons_succ, List.set_cons_zero, List.set_cons_succ, Option.join_some, Option.join_none, Option.map_some, List.all_cons, List.all_nil, Value.oneCell', reduceIte, reduceCtorEq, Nat.reduceEqDiff, Nat.reduceAdd, Nat.reduceMul, Nat.reduceLT, Nat.reduceBEq, Nat.reduceLeDiff, Nat.reduceSub, List.size_toArray] -- r1
  refine ITri.block ?_
  refine ITri.loop (fun k : Nat => [(0, .slice (some ⟨1, 0, none⟩) n c), (3, pt 2), (5, .int .i64 k)]) (fun _ => []) (fun k => Hp 2 [none, some (.cells ⟨rows eU l, 0, false⟩), some (.cells ⟨[.int .i64 x.1, .int .i64 x.2.1, .int .i64 x.2.2], 1, false⟩)]) (fun k => k ≤ n ∧ ∀ j, j < k → nth l j ≠ x) (fun k => n - k) 0 ⟨Nat.zero_le _, fun j hj => by omega⟩ (Wk.sub ⟨rfl, rfl, rfl, trivial⟩) fun k hk => ?_
  obtain ⟨hk, hno⟩ := hk
  refine ITri.seq ?_
  refine ITri.seq ?_
  refine ITri.reg pokT ?_; simp -implicitDefEqProofs (disch := first | decide | exact of_eq_true (eq_true rfl) | omega | assumption) only [ ↓vcD, vcE, evs, evP, evB, intsOf, fillC, Value.cells, pt, List.append_nil, List.nil_append, List.cons_append, List.length_cons, List.length_nil, List.filter_nil, List.map_nil, ↓List.getElem?_cons_zero, ↓List.getElem?_cons_succ, List.getElem?_cons_zero, List.getElem?_cons_succ, List.set_cons_zero, List.set_cons_succ, Option.join_some, Option.join_none, Option.map_some, List.all_cons, List.all_nil, Value.oneCell', reduceIte, reduceCtorEq, Nat.reduceEqDiff, Nat.reduceAdd, Nat.reduceMul, Nat.reduceLT, Nat.reduceBEq, Nat.reduceLeDiff, Nat.reduceSub, List.size_toArray] -- r2
  refine ITri.condD (by rfl) (fun h1 => ?_) (fun h1 => ?_)
  · have hkr : k < l.length := by omega
    have htk : takeC (rows eU l) (k * 3) 3 = some [.int .i64 (nth l k).1, .int .i64 (nth l k).2.1, .int .i64 (nth l k).2.2] := takeU hkr
    have heq := eqU (nth l k) x
    refine ITri.skip ?_; simp only [SeqQ_normal, BlkQ_normal]
    refine ITri.seq ?_
    refine ITri.block ?_
    refine ITri.seq ?_
    refine ITri.draw pokT ?_; simp -implicitDefEqProofs (disch := first | decide | exact of_eq_true (eq_true rfl) | omega | assumption) only [htk, heq,  ↓vcD, vcE, evs, evP, evB, intsOf, fillC, Value.cells, pt, List.append_nil, List.nil_append, List.cons_append, List.length_cons, List.length_nil, List.filter_nil, List.map_nil, ↓List.getElem?_cons_zero, ↓List.getElem?_cons_succ, List.getElem?_cons_zero, List.getElem?_cons_succ, List.set_cons_zero, List.set_cons_succ, Option.join_some, Option.join_none, Option.map_some, List.all_cons, List.all_nil, Value.oneCell', reduceIte, reduceCtorEq, Nat.reduceEqDiff, Nat.reduceAdd, Nat.reduceMul, Nat.reduceLT, Nat.reduceBEq, Nat.reduceLeDiff, Nat.reduceSub, List.size_toArray] -- r4
    refine ITri.condD (by rfl) (fun h2 => ?_) (fun h2 => ?_)
    · refine ITri.seq ?_
      refine ITri.reg pokT ?_; simp -implicitDefEqProofs (disch := first | decide | exact of_eq_true (eq_true rfl) | omega | assumption) only [ ↓vcD, vcE, evs, evP, evB, intsOf, fillC, Value.cells, pt, List.append_nil, List.nil_append, List.cons_append, List.length_cons, List.length_nil, List.filter_nil, List.map_nil, ↓List.getElem?_cons_zero, ↓List.getElem?_cons_succ, List.getElem?_cons_zero, List.getElem?_cons_succ, List.set_cons_zero, List.set_cons_succ, Option.join_some, Option.join_none, Option.map_some, List.all_cons, List.all_nil, Value.oneCell', reduceIte, reduceCtorEq, Nat.reduceEqDiff, Nat.reduceAdd, Nat.reduceMul, Nat.reduceLT, Nat.reduceBEq, Nat.reduceLeDiff, Nat.reduceSub, List.size_toArray]
      refine ITri.ret ?_; exact EndR.plain (by simp) (by rfl) (by rfl) (by rfl)
    refine ITri.skip ?_; simp only [SeqQ_normal, BlkQ_normal]
    refine ITri.reg pokT ?_; simp -implicitDefEqProofs (disch := first | decide | exact of_eq_true (eq_true rfl) | omega | assumption) only [ ↓vcD, vcE, evs, evP, evB, intsOf, fillC, Value.cells, pt, List.append_nil, List.nil_append, List.cons_append, List.length_cons, List.length_nil, List.filter_nil, List.map_nil, ↓List.getElem?_cons_zero, ↓List.getElem?_cons_succ, List.getElem?_cons_zero, List.getElem?_cons_succ, List.set_cons_zero, List.set_cons_succ, Option.join_some, Option.join_none, Option.map_some, List.all_cons, List.all_nil, Value.oneCell', reduceIte, reduceCtorEq, Nat.reduceEqDiff, Nat.reduceAdd, Nat.reduceMul, Nat.reduceLT, Nat.reduceBEq, Nat.reduceLeDiff, Nat.reduceSub, List.size_toArray]
    exact LoopQ.next (k + 1) ⟨by omega, fun j hj => by by_cases e : j = k; rw [e]; exact h2; exact hno j (by omega)⟩ (by omega) (Wk.sub ⟨rfl, rfl, rfl, trivial⟩)
  refine ITri.exit ?_; try simp -implicitDefEqProofs (disch := first | decide | exact of_eq_true (eq_true rfl) | omega | assumption) only [ ↓vcD, vcE, evs, evP, evB, intsOf, fillC, Value.cells, pt, List.append_nil, List.nil_append, List.cons_append, List.length_cons, List.length_nil, List.filter_nil, List.map_nil, ↓List.getElem?_cons_zero, ↓List.getElem?_cons_succ, List.getElem?_cons_zero, List.getElem?_cons_succ, List.set_cons_zero, List.set_cons_succ, Option.join_some, Option.join_none, Option.map_some, List.all_cons, List.all_nil, Value.oneCell', reduceIte, reduceCtorEq, Nat.reduceEqDiff, Nat.reduceAdd, Nat.reduceMul, Nat.reduceLT, Nat.reduceBEq, Nat.reduceLeDiff, Nat.reduceSub, List.size_toArray]
  obtain ⟨j, hj, e⟩ := List.mem_iff_getElem.1 hx
  exact absurd (nth_of (by rw [List.getElem?_eq_getElem hj, e])) (hno j (by omega))
theorem has_f {n : Nat} {l : List Al} {x : Al} (hn : l.length = n) (hb : n ≤ 1000000) (hx : x ∈ l) {h : AH} {s : Value} (h0 : h.sees 0 = true) (r : Rd h s n (rows eU l)) :
    Fc Try.prog 22 [s, uV x] h (.bool true) h :=
  Fc.lift1 (mk := fun ss => [] ++ ss ++ [uV x]) (mkv := fun _ => .bool true) (os := []) (fun c => has_c n c l x hn hb hx) (MkL.mid rfl rfl) (MkV.const rfl) (rows_no (f := eU) l) (fun o ho => by cases ho) h0 r
abbrev cB (cen : Int) (s : Value) : Option AObj := some (.cells ⟨[.int .i64 cen, s], 1, false⟩)
abbrev m5 (n c : Nat) (cen : Int) (rs : List Ru) (vs : List Int) (A : List Al) (R : List (Option AObj)) : List (Option AObj) := none :: some (.cells ⟨rows eU rs, 0, false⟩) :: some (.cells ⟨rows eN vs, 0, false⟩) :: cB cen (.slice (some ⟨1, 0, none⟩) n c) :: some (.cells ⟨rows eU A, 3, true⟩) :: R
abbrev f5 (m d : Nat) (cut : Int) (A : List Al) (R : Fr) : Fr := (1, .slice (some ⟨2, 0, none⟩) m d) :: (2, .int .u8 cut) :: (3, pt 3) :: (7, .slice (some ⟨4, 0, none⟩) A.length openB) :: R
theorem alE_st {even : Bool} {c : Int} {rs : List Ru} {vs : List Int} (h : alE c rs vs = 0) : alE c (rs.map (stR even)) vs = 0 := by
  obtain ⟨h1, h2, h3⟩ := alE_ok h
  obtain ⟨q1, q2, q3⟩ := chOK_ok h1
  have e1 : chOK c (rs.map (stR even)) = true := by
    unfold chOK
    rw [List.length_map, decide_eq_true q2]
    have : (rs.map (stR even)).all ruOK = true := List.all_eq_true.2 fun r hr => by
      obtain ⟨r', hr', rfl⟩ := List.mem_map.1 hr
      exact stR_ok (q3 r' hr')
    rw [this]
    unfold inT
    rw [decide_eq_true q1.1, decide_eq_true q1.2]
    rfl
  have e2 : vs.all (fun v => inT v (-1000000) 1000000) = true := List.all_eq_true.2 fun v hv => by
    have := h3 v hv
    unfold inT
    rw [decide_eq_true this.1, decide_eq_true this.2]
    rfl
  unfold alE
  rw [if_neg (by rw [e1]; simp), if_neg (by omega), if_neg (by rw [e2]; simp)]
set_option maxHeartbeats 1000000 in
theorem charts_z (n c m d : Nat) (cen cut : Int) (rs : List Ru) (vs : List Int) (A : List Al) (hn : rs.length = n) (hm : vs.length = m) (he : alE cen rs vs = 0) (hA : A = alF cen rs vs m) (hcut : 0 ≤ cut ∧ cut ≤ 255) :
    ITri Try.prog 319 none 3 ir6_95 (f5 m d cut A []) [] (Hp 3 (m5 n c cen rs vs A [])) (EndR Try.prog [.tmp 6] 3 [] (.bool true)) := by
  obtain ⟨ho1, ho2, ho3⟩ := alE_ok he
  obtain ⟨q1, q2, q3⟩ := chOK_ok ho1
  obtain ⟨even, hev⟩ : ∃ b, b = decide (cut % 2 = 0) := ⟨_, rfl⟩
  refine ITri.seq ?_
  refine ITri.reg pokT ?_; simp -implicitDefEqProofs (disch := first | decide | exact of_eq_true (eq_true rfl) | omega | assumption) only [ ↓vcD, vcE, evs, evP, evB, intsOf, fillC, Value.cells, pt, List.append_nil, List.nil_append, List.cons_append, List.length_cons, List.length_nil, List.filter_nil, List.map_nil, ↓List.getElem?_cons_zero, ↓List.getElem?_cons_succ, List.getElem?_cons_zero, List.getElem?_cons_succ, List.set_cons_zero, List.set_cons_succ, Option.join_some, Option.join_none, Option.map_some, List.all_cons, List.all_nil, Value.oneCell', reduceIte, reduceCtorEq, Nat.reduceEqDiff, Nat.reduceAdd, Nat.reduceMul, Nat.reduceLT, Nat.reduceBEq, Nat.reduceLeDiff, Nat.reduceSub, List.size_toArray] -- r39
  refine ITri.seq ?_
  refine ITri.seq ?_
  refine ITri.reg pokT ?_; simp -implicitDefEqProofs (disch := first | decide | exact of_eq_true (eq_true rfl) | omega | assumption) only [ ↓vcD, vcE, evs, evP, evB, intsOf, fillC, Value.cells, pt, List.append_nil, List.nil_append, List.cons_append, List.length_cons, List.length_nil, List.filter_nil, List.map_nil, ↓List.getElem?_cons_zero, ↓List.getElem?_cons_succ, List.getElem?_cons_zero, List.getElem?_cons_succ, List.set_cons_zero, List.set_cons_succ, Option.join_some, Option.join_none, Option.map_some, List.all_cons, List.all_nil, Value.oneCell', reduceIte, reduceCtorEq, Nat.reduceEqDiff, Nat.reduceAdd, Nat.reduceMul, Nat.reduceLT, Nat.reduceBEq, Nat.reduceLeDiff, Nat.reduceSub, List.size_toArray] -- r40
  refine ITri.block ?_
  refine ITri.loop (fun k : Nat => f5 m d cut A [(21, pt 5), (22, .int .i64 k)]) (fun _ => []) (fun k => Hp 3 (m5 n c cen rs vs A [cB cen (.slice (some ⟨6, 0, none⟩) k openB), some (.cells ⟨rows eU ((rs.take k).map (stR even)), 3, true⟩)])) (fun k => k ≤ n) (fun k => n - k) 0 (Nat.zero_le _) (Wk.gc [0, 1, 2, 3, 4, 5, 6] [(6, .nil)] (of_decide_eq_true rfl) (of_decide_eq_true rfl) rfl rfl (of_decide_eq_true rfl) rfl rfl (by repeat (first | exact xiOK_nil | refine xiOK_cons (by first | trivial | exact roomOK _ (by decide)) ?_)) rfl (by simp -implicitDefEqProofs (disch := first | decide | exact of_eq_true (eq_true rfl) | omega | assumption) only [List.take_zero, rows_nil, objOK, sgL, xiL, objAt, nilO, OM, mvL, mv, mvS, okS, okP, mvL_rows, okML, okM, okML_rows, List.getElem?_cons_zero, Option.getD_some, implies_true, imp_self, ne_eq, and_self, true_or, or_true, Nat.zero_mul, Nat.sub_self, openB_self, ↓vcD, vcE, evs, evP, evB, intsOf, fillC, Value.cells, pt, List.append_nil, List.nil_append, List.cons_append, List.length_cons, List.length_nil, List.filter_nil, List.map_nil, ↓List.getElem?_cons_zero, ↓List.getElem?_cons_succ, List.getElem?_cons_zero, List.getElem?_cons_succ, List.set_cons_zero, List.set_cons_succ, Option.join_some, Option.join_none, Option.map_some, List.all_cons, List.all_nil, Value.oneCell', reduceIte, reduceCtorEq, Nat.reduceEqDiff, Nat.reduceAdd, Nat.reduceMul, Nat.reduceLT, Nat.reduceBEq, Nat.reduceLeDiff, Nat.reduceSub, List.size_toArray]) (by simp -implicitDefEqProofs (disch := first | decide | exact of_eq_true (eq_true rfl) | omega | assumption) only [List.take_zero, rows_nil, valOK, sgL, xiL, mv, mvA, mvL, mvS, okS, okP, okM, okMA, okML, Option.getD_some, implies_true, and_self, true_or, or_true, Int.natCast_add, Int.cast_ofNat_Int, Nat.zero_mul, Nat.sub_self, openB_self, ↓vcD, vcE, evs, evP, evB, intsOf, fillC, Value.cells, pt, List.append_nil, List.nil_append, List.cons_append, List.length_cons, List.length_nil, List.filter_nil, List.map_nil, ↓List.getElem?_cons_zero, ↓List.getElem?_cons_succ, List.getElem?_cons_zero, List.getElem?_cons_succ, List.set_cons_zero, List.set_cons_succ, Option.join_some, Option.join_none, Option.map_some, List.all_cons, List.all_nil, Value.oneCell', reduceIte, reduceCtorEq, Nat.reduceEqDiff, Nat.reduceAdd, Nat.reduceMul, Nat.reduceLT, Nat.reduceBEq, Nat.reduceLeDiff, Nat.reduceSub, List.size_toArray]) (fun _ h => by cases h) ⟨rfl, fun _ h => by cases h⟩) fun k hk => ?_
  refine ITri.seq ?_
  refine ITri.seq ?_
  refine ITri.reg pokT ?_; simp -implicitDefEqProofs (disch := first | decide | exact of_eq_true (eq_true rfl) | omega | assumption) only [ ↓vcD, vcE, evs, evP, evB, intsOf, fillC, Value.cells, pt, List.append_nil, List.nil_append, List.cons_append, List.length_cons, List.length_nil, List.filter_nil, List.map_nil, ↓List.getElem?_cons_zero, ↓List.getElem?_cons_succ, List.getElem?_cons_zero, List.getElem?_cons_succ, List.set_cons_zero, List.set_cons_succ, Option.join_some, Option.join_none, Option.map_some, List.all_cons, List.all_nil, Value.oneCell', reduceIte, reduceCtorEq, Nat.reduceEqDiff, Nat.reduceAdd, Nat.reduceMul, Nat.reduceLT, Nat.reduceBEq, Nat.reduceLeDiff, Nat.reduceSub, List.size_toArray] -- r41
  refine ITri.condD (by rfl) (fun h2 => ?_) (fun h2 => ?_)
  · have hkr : k < rs.length := by omega
    obtain ⟨⟨of, last, far⟩, hab⟩ : ∃ r, nth rs k = r := ⟨_, rfl⟩
    have hrk := q3 _ (nth_mem hkr)
    rw [hab] at hrk
    obtain ⟨r1, r2, r3, r4, r5⟩ := ruOK_ok hrk
    simp only at r1 r2 r3 r4 r5
    have htk : takeC (rows eU rs) (k * 3) 3 = some [.int .i64 of, .int .i64 last, .int .i64 far] := by rw [takeU hkr, hab]; rfl
    refine ITri.skip ?_; simp only [SeqQ_normal, BlkQ_normal]
    refine ITri.seq ?_
    refine ITri.block ?_
    refine ITri.seq ?_
    refine ITri.reg pokT ?_; simp -implicitDefEqProofs (disch := first | decide | exact of_eq_true (eq_true rfl) | omega | assumption) only [htk,  ↓vcD, vcE, evs, evP, evB, intsOf, fillC, Value.cells, pt, List.append_nil, List.nil_append, List.cons_append, List.length_cons, List.length_nil, List.filter_nil, List.map_nil, ↓List.getElem?_cons_zero, ↓List.getElem?_cons_succ, List.getElem?_cons_zero, List.getElem?_cons_succ, List.set_cons_zero, List.set_cons_succ, Option.join_some, Option.join_none, Option.map_some, List.all_cons, List.all_nil, Value.oneCell', reduceIte, reduceCtorEq, Nat.reduceEqDiff, Nat.reduceAdd, Nat.reduceMul, Nat.reduceLT, Nat.reduceBEq, Nat.reduceLeDiff, Nat.reduceSub, List.size_toArray] -- r43
    refine ITri.seq ?_
    obtain ⟨⟨x1, x2, x3⟩, hx⟩ : ∃ r, stR even (of, last, far) = r := ⟨_, rfl⟩
    refine ITri.cut (fun _ : Unit => f5 m d cut A [(21, pt 5), (22, .int .i64 k), (23, pt 7)]) (fun _ => []) (fun _ => Hp 3 (m5 n c cen rs vs A [cB cen (.slice (some ⟨6, 0, none⟩) k openB), some (.cells ⟨rows eU ((rs.take k).map (stR even)), 3, true⟩), some (.cells ⟨[.int .i64 x1, .int .i64 x2, .int .i64 x3], 1, false⟩)])) (fun _ => True) ?_ (fun _ _ => ?_)
    · refine ITri.seq ?_
      unfold stR at hx
      simp only at hx
      by_cases c1 : of < last
      · cases c2 : decide (cut % 2 = 0) with
        | true =>
          rw [hev, c2, decide_eq_true c1, if_pos (by rfl)] at hx
          injection hx with hx1 hx
          injection hx with hx2 hx3
          subst hx1 hx2 hx3
          refine ITri.reg pokT ?_; simp -implicitDefEqProofs (disch := first | decide | exact of_eq_true (eq_true rfl) | omega | assumption) only [c1, c2, decide_true,  ↓vcD, vcE, evs, evP, evB, intsOf, fillC, Value.cells, pt, List.append_nil, List.nil_append, List.cons_append, List.length_cons, List.length_nil, List.filter_nil, List.map_nil, ↓List.getElem?_cons_zero, ↓List.getElem?_cons_succ, List.getElem?_cons_zero, List.getElem?_cons_succ, List.set_cons_zero, List.set_cons_succ, Option.join_some, Option.join_none, Option.map_some, List.all_cons, List.all_nil, Value.oneCell', reduceIte, reduceCtorEq, Nat.reduceEqDiff, Nat.reduceAdd, Nat.reduceMul, Nat.reduceLT, Nat.reduceBEq, Nat.reduceLeDiff, Nat.reduceSub, List.size_toArray]
          refine ITri.cond (v := true) rfl (fun _ => ?_) (fun h => by cases h)
          refine ITri.reg pokT ?_; simp -implicitDefEqProofs (disch := first | decide | exact of_eq_true (eq_true rfl) | omega | assumption) only [ ↓vcD, vcE, evs, evP, evB, intsOf, fillC, Value.cells, pt, List.append_nil, List.nil_append, List.cons_append, List.length_cons, List.length_nil, List.filter_nil, List.map_nil, ↓List.getElem?_cons_zero, ↓List.getElem?_cons_succ, List.getElem?_cons_zero, List.getElem?_cons_succ, List.set_cons_zero, List.set_cons_succ, Option.join_some, Option.join_none, Option.map_some, List.all_cons, List.all_nil, Value.oneCell', reduceIte, reduceCtorEq, Nat.reduceEqDiff, Nat.reduceAdd, Nat.reduceMul, Nat.reduceLT, Nat.reduceBEq, Nat.reduceLeDiff, Nat.reduceSub, List.size_toArray] -- r45
          exact CutQ.mk () trivial (Wk.sub ⟨rfl, rfl, rfl, rfl, rfl, rfl, rfl, trivial⟩)
        | false =>
          rw [hev, c2, Bool.and_false, if_neg (by decide)] at hx
          refine ITri.reg pokT ?_; simp -implicitDefEqProofs (disch := first | decide | exact of_eq_true (eq_true rfl) | omega | assumption) only [c1, c2, decide_true,  ↓vcD, vcE, evs, evP, evB, intsOf, fillC, Value.cells, pt, List.append_nil, List.nil_append, List.cons_append, List.length_cons, List.length_nil, List.filter_nil, List.map_nil, ↓List.getElem?_cons_zero, ↓List.getElem?_cons_succ, List.getElem?_cons_zero, List.getElem?_cons_succ, List.set_cons_zero, List.set_cons_succ, Option.join_some, Option.join_none, Option.map_some, List.all_cons, List.all_nil, Value.oneCell', reduceIte, reduceCtorEq, Nat.reduceEqDiff, Nat.reduceAdd, Nat.reduceMul, Nat.reduceLT, Nat.reduceBEq, Nat.reduceLeDiff, Nat.reduceSub, List.size_toArray]
          refine ITri.cond (v := false) rfl (fun h => by cases h) (fun _ => ?_)
          refine ITri.seq ?_
          by_cases c3 : far < 1000000
          · rw [if_pos c3] at hx
            injection hx with hx1 hx
            injection hx with hx2 hx3
            subst hx1 hx2 hx3
            refine ITri.reg pokT ?_; simp -implicitDefEqProofs (disch := first | decide | exact of_eq_true (eq_true rfl) | omega | assumption) only [c3, decide_true,  ↓vcD, vcE, evs, evP, evB, intsOf, fillC, Value.cells, pt, List.append_nil, List.nil_append, List.cons_append, List.length_cons, List.length_nil, List.filter_nil, List.map_nil, ↓List.getElem?_cons_zero, ↓List.getElem?_cons_succ, List.getElem?_cons_zero, List.getElem?_cons_succ, List.set_cons_zero, List.set_cons_succ, Option.join_some, Option.join_none, Option.map_some, List.all_cons, List.all_nil, Value.oneCell', reduceIte, reduceCtorEq, Nat.reduceEqDiff, Nat.reduceAdd, Nat.reduceMul, Nat.reduceLT, Nat.reduceBEq, Nat.reduceLeDiff, Nat.reduceSub, List.size_toArray]
            refine ITri.cond (v := true) rfl (fun _ => ?_) (fun h => by cases h)
            refine ITri.reg pokT ?_; simp -implicitDefEqProofs (disch := first | decide | exact of_eq_true (eq_true rfl) | omega | assumption) only [ ↓vcD, vcE, evs, evP, evB, intsOf, fillC, Value.cells, pt, List.append_nil, List.nil_append, List.cons_append, List.length_cons, List.length_nil, List.filter_nil, List.map_nil, ↓List.getElem?_cons_zero, ↓List.getElem?_cons_succ, List.getElem?_cons_zero, List.getElem?_cons_succ, List.set_cons_zero, List.set_cons_succ, Option.join_some, Option.join_none, Option.map_some, List.all_cons, List.all_nil, Value.oneCell', reduceIte, reduceCtorEq, Nat.reduceEqDiff, Nat.reduceAdd, Nat.reduceMul, Nat.reduceLT, Nat.reduceBEq, Nat.reduceLeDiff, Nat.reduceSub, List.size_toArray] -- r47
            exact CutQ.mk () trivial (Wk.sub ⟨rfl, rfl, rfl, rfl, rfl, rfl, rfl, trivial⟩)
          · rw [if_neg c3] at hx
            injection hx with hx1 hx
            injection hx with hx2 hx3
            subst hx1 hx2 hx3
            refine ITri.reg pokT ?_; simp -implicitDefEqProofs (disch := first | decide | exact of_eq_true (eq_true rfl) | omega | assumption) only [c3, decide_false,  ↓vcD, vcE, evs, evP, evB, intsOf, fillC, Value.cells, pt, List.append_nil, List.nil_append, List.cons_append, List.length_cons, List.length_nil, List.filter_nil, List.map_nil, ↓List.getElem?_cons_zero, ↓List.getElem?_cons_succ, List.getElem?_cons_zero, List.getElem?_cons_succ, List.set_cons_zero, List.set_cons_succ, Option.join_some, Option.join_none, Option.map_some, List.all_cons, List.all_nil, Value.oneCell', reduceIte, reduceCtorEq, Nat.reduceEqDiff, Nat.reduceAdd, Nat.reduceMul, Nat.reduceLT, Nat.reduceBEq, Nat.reduceLeDiff, Nat.reduceSub, List.size_toArray]
            refine ITri.cond (v := false) rfl (fun h => by cases h) (fun _ => ?_)
            refine ITri.skip ?_
            exact CutQ.mk () trivial (Wk.sub ⟨rfl, rfl, rfl, rfl, rfl, rfl, rfl, trivial⟩)
      · rw [decide_eq_false c1, Bool.false_and, if_neg (by decide)] at hx
        refine ITri.reg pokT ?_; simp -implicitDefEqProofs (disch := first | decide | exact of_eq_true (eq_true rfl) | omega | assumption) only [c1, decide_false,  ↓vcD, vcE, evs, evP, evB, intsOf, fillC, Value.cells, pt, List.append_nil, List.nil_append, List.cons_append, List.length_cons, List.length_nil, List.filter_nil, List.map_nil, ↓List.getElem?_cons_zero, ↓List.getElem?_cons_succ, List.getElem?_cons_zero, List.getElem?_cons_succ, List.set_cons_zero, List.set_cons_succ, Option.join_some, Option.join_none, Option.map_some, List.all_cons, List.all_nil, Value.oneCell', reduceIte, reduceCtorEq, Nat.reduceEqDiff, Nat.reduceAdd, Nat.reduceMul, Nat.reduceLT, Nat.reduceBEq, Nat.reduceLeDiff, Nat.reduceSub, List.size_toArray]
        refine ITri.cond (v := false) rfl (fun h => by cases h) (fun _ => ?_)
        refine ITri.seq ?_
        by_cases c3 : far < 1000000
        · rw [if_pos c3] at hx
          injection hx with hx1 hx
          injection hx with hx2 hx3
          subst hx1 hx2 hx3
          refine ITri.reg pokT ?_; simp -implicitDefEqProofs (disch := first | decide | exact of_eq_true (eq_true rfl) | omega | assumption) only [c3, decide_true,  ↓vcD, vcE, evs, evP, evB, intsOf, fillC, Value.cells, pt, List.append_nil, List.nil_append, List.cons_append, List.length_cons, List.length_nil, List.filter_nil, List.map_nil, ↓List.getElem?_cons_zero, ↓List.getElem?_cons_succ, List.getElem?_cons_zero, List.getElem?_cons_succ, List.set_cons_zero, List.set_cons_succ, Option.join_some, Option.join_none, Option.map_some, List.all_cons, List.all_nil, Value.oneCell', reduceIte, reduceCtorEq, Nat.reduceEqDiff, Nat.reduceAdd, Nat.reduceMul, Nat.reduceLT, Nat.reduceBEq, Nat.reduceLeDiff, Nat.reduceSub, List.size_toArray]
          refine ITri.cond (v := true) rfl (fun _ => ?_) (fun h => by cases h)
          refine ITri.reg pokT ?_; simp -implicitDefEqProofs (disch := first | decide | exact of_eq_true (eq_true rfl) | omega | assumption) only [ ↓vcD, vcE, evs, evP, evB, intsOf, fillC, Value.cells, pt, List.append_nil, List.nil_append, List.cons_append, List.length_cons, List.length_nil, List.filter_nil, List.map_nil, ↓List.getElem?_cons_zero, ↓List.getElem?_cons_succ, List.getElem?_cons_zero, List.getElem?_cons_succ, List.set_cons_zero, List.set_cons_succ, Option.join_some, Option.join_none, Option.map_some, List.all_cons, List.all_nil, Value.oneCell', reduceIte, reduceCtorEq, Nat.reduceEqDiff, Nat.reduceAdd, Nat.reduceMul, Nat.reduceLT, Nat.reduceBEq, Nat.reduceLeDiff, Nat.reduceSub, List.size_toArray] -- r47
          exact CutQ.mk () trivial (Wk.sub ⟨rfl, rfl, rfl, rfl, rfl, rfl, rfl, trivial⟩)
        · rw [if_neg c3] at hx
          injection hx with hx1 hx
          injection hx with hx2 hx3
          subst hx1 hx2 hx3
          refine ITri.reg pokT ?_; simp -implicitDefEqProofs (disch := first | decide | exact of_eq_true (eq_true rfl) | omega | assumption) only [c3, decide_false,  ↓vcD, vcE, evs, evP, evB, intsOf, fillC, Value.cells, pt, List.append_nil, List.nil_append, List.cons_append, List.length_cons, List.length_nil, List.filter_nil, List.map_nil, ↓List.getElem?_cons_zero, ↓List.getElem?_cons_succ, List.getElem?_cons_zero, List.getElem?_cons_succ, List.set_cons_zero, List.set_cons_succ, Option.join_some, Option.join_none, Option.map_some, List.all_cons, List.all_nil, Value.oneCell', reduceIte, reduceCtorEq, Nat.reduceEqDiff, Nat.reduceAdd, Nat.reduceMul, Nat.reduceLT, Nat.reduceBEq, Nat.reduceLeDiff, Nat.reduceSub, List.size_toArray]
          refine ITri.cond (v := false) rfl (fun h => by cases h) (fun _ => ?_)
          refine ITri.skip ?_
          exact CutQ.mk () trivial (Wk.sub ⟨rfl, rfl, rfl, rfl, rfl, rfl, rfl, trivial⟩)
    try simp -implicitDefEqProofs (disch := first | decide | exact of_eq_true (eq_true rfl) | omega | assumption) only [ ↓vcD, vcE, evs, evP, evB, intsOf, fillC, Value.cells, pt, List.append_nil, List.nil_append, List.cons_append, List.length_cons, List.length_nil, List.filter_nil, List.map_nil, ↓List.getElem?_cons_zero, ↓List.getElem?_cons_succ, List.getElem?_cons_zero, List.getElem?_cons_succ, List.set_cons_zero, List.set_cons_succ, Option.join_some, Option.join_none, Option.map_some, List.all_cons, List.all_nil, Value.oneCell', reduceIte, reduceCtorEq, Nat.reduceEqDiff, Nat.reduceAdd, Nat.reduceMul, Nat.reduceLT, Nat.reduceBEq, Nat.reduceLeDiff, Nat.reduceSub, List.size_toArray]
    have hS : (rs.take (k + 1)).map (stR even) = (rs.take k).map (stR even) ++ [(x1, x2, x3)] := by
      rw [List.take_add_one, get_nth hkr, hab, ← hx, List.map_append]
      rfl
    have hSl : ((rs.take k).map (stR even)).length = k := by rw [List.length_map, List.length_take]; omega
    have hlr : (rows eU ((rs.take k).map (stR even))).length = k * 3 := by rw [rows_len, hSl]
    have hsn : rows eU ((rs.take k).map (stR even)) ++ [.int .i64 x1, .int .i64 x2, .int .i64 x3] = rows eU ((rs.take (k + 1)).map (stR even)) := by
      rw [hS, rows_append, rows_one]
      rfl
    refine ITri.reg pokT ?_; simp -implicitDefEqProofs (disch := first | decide | exact of_eq_true (eq_true rfl) | omega | assumption) only [hlr,  ↓vcD, vcE, evs, evP, evB, intsOf, fillC, Value.cells, pt, List.append_nil, List.nil_append, List.cons_append, List.length_cons, List.length_nil, List.filter_nil, List.map_nil, ↓List.getElem?_cons_zero, ↓List.getElem?_cons_succ, List.getElem?_cons_zero, List.getElem?_cons_succ, List.set_cons_zero, List.set_cons_succ, Option.join_some, Option.join_none, Option.map_some, List.all_cons, List.all_nil, Value.oneCell', reduceIte, reduceCtorEq, Nat.reduceEqDiff, Nat.reduceAdd, Nat.reduceMul, Nat.reduceLT, Nat.reduceBEq, Nat.reduceLeDiff, Nat.reduceSub, List.size_toArray] -- r48
    rw [hsn]
    refine ITri.reg pokT ?_; simp -implicitDefEqProofs (disch := first | decide | exact of_eq_true (eq_true rfl) | omega | assumption) only [ ↓vcD, vcE, evs, evP, evB, intsOf, fillC, Value.cells, pt, List.append_nil, List.nil_append, List.cons_append, List.length_cons, List.length_nil, List.filter_nil, List.map_nil, ↓List.getElem?_cons_zero, ↓List.getElem?_cons_succ, List.getElem?_cons_zero, List.getElem?_cons_succ, List.set_cons_zero, List.set_cons_succ, Option.join_some, Option.join_none, Option.map_some, List.all_cons, List.all_nil, Value.oneCell', reduceIte, reduceCtorEq, Nat.reduceEqDiff, Nat.reduceAdd, Nat.reduceMul, Nat.reduceLT, Nat.reduceBEq, Nat.reduceLeDiff, Nat.reduceSub, List.size_toArray] -- r42
    exact LoopQ.next (k + 1) (by omega) (by omega) (Wk.gc [0, 1, 2, 3, 4, 5, 9] [] (of_decide_eq_true rfl) (of_decide_eq_true rfl) rfl rfl (of_decide_eq_true rfl) rfl rfl (fun _ h => by cases h) rfl (by simp -implicitDefEqProofs (disch := first | decide | exact of_eq_true (eq_true rfl) | omega | assumption) only [objOK, sgL, xiL, objAt, nilO, OM, mvL, mv, mvS, okS, okP, mvL_rows, okML, okM, okML_rows, List.getElem?_cons_zero, Option.getD_some, implies_true, imp_self, ne_eq, and_self, ↓vcD, vcE, evs, evP, evB, intsOf, fillC, Value.cells, pt, List.append_nil, List.nil_append, List.cons_append, List.length_cons, List.length_nil, List.filter_nil, List.map_nil, ↓List.getElem?_cons_zero, ↓List.getElem?_cons_succ, List.getElem?_cons_zero, List.getElem?_cons_succ, List.set_cons_zero, List.set_cons_succ, Option.join_some, Option.join_none, Option.map_some, List.all_cons, List.all_nil, Value.oneCell', reduceIte, reduceCtorEq, Nat.reduceEqDiff, Nat.reduceAdd, Nat.reduceMul, Nat.reduceLT, Nat.reduceBEq, Nat.reduceLeDiff, Nat.reduceSub, List.size_toArray]) (by simp -implicitDefEqProofs (disch := first | decide | exact of_eq_true (eq_true rfl) | omega | assumption) only [ valOK, sgL, xiL, mv, mvA, mvL, mvS, okS, okP, okM, okMA, okML, Option.getD_some, implies_true, and_self, Int.natCast_add, Int.cast_ofNat_Int, ↓vcD, vcE, evs, evP, evB, intsOf, fillC, Value.cells, pt, List.append_nil, List.nil_append, List.cons_append, List.length_cons, List.length_nil, List.filter_nil, List.map_nil, ↓List.getElem?_cons_zero, ↓List.getElem?_cons_succ, List.getElem?_cons_zero, List.getElem?_cons_succ, List.set_cons_zero, List.set_cons_succ, Option.join_some, Option.join_none, Option.map_some, List.all_cons, List.all_nil, Value.oneCell', reduceIte, reduceCtorEq, Nat.reduceEqDiff, Nat.reduceAdd, Nat.reduceMul, Nat.reduceLT, Nat.reduceBEq, Nat.reduceLeDiff, Nat.reduceSub, List.size_toArray]) (fun _ h => by cases h) ⟨rfl, fun _ h => by cases h⟩)
  refine ITri.exit ?_; try simp -implicitDefEqProofs (disch := first | decide | exact of_eq_true (eq_true rfl) | omega | assumption) only [ ↓vcD, vcE, evs, evP, evB, intsOf, fillC, Value.cells, pt, List.append_nil, List.nil_append, List.cons_append, List.length_cons, List.length_nil, List.filter_nil, List.map_nil, ↓List.getElem?_cons_zero, ↓List.getElem?_cons_succ, List.getElem?_cons_zero, List.getElem?_cons_succ, List.set_cons_zero, List.set_cons_succ, Option.join_some, Option.join_none, Option.map_some, List.all_cons, List.all_nil, Value.oneCell', reduceIte, reduceCtorEq, Nat.reduceEqDiff, Nat.reduceAdd, Nat.reduceMul, Nat.reduceLT, Nat.reduceBEq, Nat.reduceLeDiff, Nat.reduceSub, List.size_toArray]
  obtain rfl : n = k := by omega
  have htn : rs.take n = rs := by rw [← hn, List.take_length]
  rw [htn]
  have he2 := alE_st (even := even) he
  have hn2 : (rs.map (stR even)).length = n := by rw [List.length_map, hn]
  obtain ⟨S, hS⟩ : ∃ S, alF cen (rs.map (stR even)) vs m = S := ⟨_, rfl⟩
  have hSA : ∀ x ∈ S, x ∈ A := fun x hx => by rw [hA]; rw [← hS] at hx; exact strict_mem (by omega) hx
  have hal : A.length ≤ 3200 := by
    rw [hA]
    have := alF_len cen rs vs m
    have : m * (2 * rs.length) ≤ 200 * 16 := Nat.mul_le_mul (by omega) (by omega)
    omega
  have hSl : S.length ≤ 3200 := by
    rw [← hS]
    have := alF_len cen (rs.map (stR even)) vs m
    have : m * (2 * (rs.map (stR even)).length) ≤ 200 * 16 := Nat.mul_le_mul (by omega) (by omega)
    omega
  have hl2 : (rows eN vs).length = m := by rw [rows_len, hm, Nat.mul_one]
  have ht2 : takeC (rows eN vs) 0 m = some (rows eN vs) := takeC_0 _ _ hl2
  refine ITri.seq ?_
  refine ITri.cut (fun _ : Unit => [(7, .slice (some ⟨3, 0, none⟩) A.length openB), (8, .int .i64 0), (24, .slice (some ⟨4, 0, none⟩) S.length openB)]) (fun _ => []) (fun _ => Hp 3 [none, some (.cells ⟨rows eU rs, 0, false⟩), some (.cells ⟨rows eN vs, 0, false⟩), some (.cells ⟨rows eU A, 3, true⟩), some (.cells ⟨rows eU S, 3, true⟩)]) (fun _ => True) ?_ (fun _ _ => ?_)
  · by_cases h0 : m = 0
    · obtain rfl : vs = [] := List.eq_nil_of_length_eq_zero (by omega)
      subst h0
      refine ITri.draw pokT ?_; simp -implicitDefEqProofs (disch := first | decide | exact of_eq_true (eq_true rfl) | omega | assumption) only [appK_0, rows_nil,  ↓vcD, vcE, evs, evP, evB, intsOf, fillC, Value.cells, pt, List.append_nil, List.nil_append, List.cons_append, List.length_cons, List.length_nil, List.filter_nil, List.map_nil, ↓List.getElem?_cons_zero, ↓List.getElem?_cons_succ, List.getElem?_cons_zero, List.getElem?_cons_succ, List.set_cons_zero, List.set_cons_succ, Option.join_some, Option.join_none, Option.map_some, List.all_cons, List.all_nil, Value.oneCell', reduceIte, reduceCtorEq, Nat.reduceEqDiff, Nat.reduceAdd, Nat.reduceMul, Nat.reduceLT, Nat.reduceBEq, Nat.reduceLeDiff, Nat.reduceSub, List.size_toArray] -- r49
      refine ⟨_, _, alarms_f (m := 0) hn2 (by omega) rfl (by omega) he2 (sees0 rfl (of_decide_eq_true rfl)) (get_hq rfl rfl) (get_hq rfl rfl), ?_⟩
      simp -implicitDefEqProofs (disch := first | decide | exact of_eq_true (eq_true rfl) | omega | assumption) only [hS,  ↓vcD, vcE, evs, evP, evB, intsOf, fillC, Value.cells, pt, List.append_nil, List.nil_append, List.cons_append, List.length_cons, List.length_nil, List.filter_nil, List.map_nil, ↓List.getElem?_cons_zero, ↓List.getElem?_cons_succ, List.getElem?_cons_zero, List.getElem?_cons_succ, List.set_cons_zero, List.set_cons_succ, Option.join_some, Option.join_none, Option.map_some, List.all_cons, List.all_nil, Value.oneCell', reduceIte, reduceCtorEq, Nat.reduceEqDiff, Nat.reduceAdd, Nat.reduceMul, Nat.reduceLT, Nat.reduceBEq, Nat.reduceLeDiff, Nat.reduceSub, List.size_toArray]
      exact CutQ.mk () trivial (Wk.gc [0, 1, 2, 4, 8] [] (of_decide_eq_true rfl) (of_decide_eq_true rfl) rfl rfl (of_decide_eq_true rfl) rfl rfl (fun _ h => by cases h) rfl (by simp -implicitDefEqProofs (disch := first | decide | exact of_eq_true (eq_true rfl) | omega | assumption) only [objOK, sgL, xiL, objAt, nilO, OM, mvL, mv, mvS, okS, okP, mvL_rows, okML, okM, okML_rows, List.getElem?_cons_zero, Option.getD_some, implies_true, imp_self, ne_eq, and_self, ↓vcD, vcE, evs, evP, evB, intsOf, fillC, Value.cells, pt, List.append_nil, List.nil_append, List.cons_append, List.length_cons, List.length_nil, List.filter_nil, List.map_nil, ↓List.getElem?_cons_zero, ↓List.getElem?_cons_succ, List.getElem?_cons_zero, List.getElem?_cons_succ, List.set_cons_zero, List.set_cons_succ, Option.join_some, Option.join_none, Option.map_some, List.all_cons, List.all_nil, Value.oneCell', reduceIte, reduceCtorEq, Nat.reduceEqDiff, Nat.reduceAdd, Nat.reduceMul, Nat.reduceLT, Nat.reduceBEq, Nat.reduceLeDiff, Nat.reduceSub, List.size_toArray]) (by simp -implicitDefEqProofs (disch := first | decide | exact of_eq_true (eq_true rfl) | omega | assumption) only [rows_nil, valOK, sgL, xiL, mv, mvA, mvL, mvS, okS, okP, okM, okMA, okML, Option.getD_some, implies_true, and_self, Int.natCast_add, Int.cast_ofNat_Int, ↓vcD, vcE, evs, evP, evB, intsOf, fillC, Value.cells, pt, List.append_nil, List.nil_append, List.cons_append, List.length_cons, List.length_nil, List.filter_nil, List.map_nil, ↓List.getElem?_cons_zero, ↓List.getElem?_cons_succ, List.getElem?_cons_zero, List.getElem?_cons_succ, List.set_cons_zero, List.set_cons_succ, Option.join_some, Option.join_none, Option.map_some, List.all_cons, List.all_nil, Value.oneCell', reduceIte, reduceCtorEq, Nat.reduceEqDiff, Nat.reduceAdd, Nat.reduceMul, Nat.reduceLT, Nat.reduceBEq, Nat.reduceLeDiff, Nat.reduceSub, List.size_toArray]) (fun _ h => by cases h) ⟨rfl, fun _ h => by cases h⟩)
    · refine ITri.draw pokT ?_; simp -implicitDefEqProofs (disch := first | decide | exact of_eq_true (eq_true rfl) | omega | assumption) only [ht2, hl2, rows_allT,  ↓vcD, vcE, evs, evP, evB, intsOf, fillC, Value.cells, pt, List.append_nil, List.nil_append, List.cons_append, List.length_cons, List.length_nil, List.filter_nil, List.map_nil, ↓List.getElem?_cons_zero, ↓List.getElem?_cons_succ, List.getElem?_cons_zero, List.getElem?_cons_succ, List.set_cons_zero, List.set_cons_succ, Option.join_some, Option.join_none, Option.map_some, List.all_cons, List.all_nil, Value.oneCell', reduceIte, reduceCtorEq, Nat.reduceEqDiff, Nat.reduceAdd, Nat.reduceMul, Nat.reduceLT, Nat.reduceBEq, Nat.reduceLeDiff, Nat.reduceSub, List.size_toArray] -- r49
      refine ⟨_, _, alarms_f hn2 (by omega) hm (by omega) he2 (sees0 rfl (of_decide_eq_true rfl)) (get_hq rfl rfl) (get_hq rfl rfl), ?_⟩
      simp -implicitDefEqProofs (disch := first | decide | exact of_eq_true (eq_true rfl) | omega | assumption) only [hS,  ↓vcD, vcE, evs, evP, evB, intsOf, fillC, Value.cells, pt, List.append_nil, List.nil_append, List.cons_append, List.length_cons, List.length_nil, List.filter_nil, List.map_nil, ↓List.getElem?_cons_zero, ↓List.getElem?_cons_succ, List.getElem?_cons_zero, List.getElem?_cons_succ, List.set_cons_zero, List.set_cons_succ, Option.join_some, Option.join_none, Option.map_some, List.all_cons, List.all_nil, Value.oneCell', reduceIte, reduceCtorEq, Nat.reduceEqDiff, Nat.reduceAdd, Nat.reduceMul, Nat.reduceLT, Nat.reduceBEq, Nat.reduceLeDiff, Nat.reduceSub, List.size_toArray]
      exact CutQ.mk () trivial (Wk.gc [0, 1, 2, 4, 9] [] (of_decide_eq_true rfl) (of_decide_eq_true rfl) rfl rfl (of_decide_eq_true rfl) rfl rfl (fun _ h => by cases h) rfl (by simp -implicitDefEqProofs (disch := first | decide | exact of_eq_true (eq_true rfl) | omega | assumption) only [objOK, sgL, xiL, objAt, nilO, OM, mvL, mv, mvS, okS, okP, mvL_rows, okML, okM, okML_rows, List.getElem?_cons_zero, Option.getD_some, implies_true, imp_self, ne_eq, and_self, ↓vcD, vcE, evs, evP, evB, intsOf, fillC, Value.cells, pt, List.append_nil, List.nil_append, List.cons_append, List.length_cons, List.length_nil, List.filter_nil, List.map_nil, ↓List.getElem?_cons_zero, ↓List.getElem?_cons_succ, List.getElem?_cons_zero, List.getElem?_cons_succ, List.set_cons_zero, List.set_cons_succ, Option.join_some, Option.join_none, Option.map_some, List.all_cons, List.all_nil, Value.oneCell', reduceIte, reduceCtorEq, Nat.reduceEqDiff, Nat.reduceAdd, Nat.reduceMul, Nat.reduceLT, Nat.reduceBEq, Nat.reduceLeDiff, Nat.reduceSub, List.size_toArray]) (by simp -implicitDefEqProofs (disch := first | decide | exact of_eq_true (eq_true rfl) | omega | assumption) only [ valOK, sgL, xiL, mv, mvA, mvL, mvS, okS, okP, okM, okMA, okML, Option.getD_some, implies_true, and_self, Int.natCast_add, Int.cast_ofNat_Int, ↓vcD, vcE, evs, evP, evB, intsOf, fillC, Value.cells, pt, List.append_nil, List.nil_append, List.cons_append, List.length_cons, List.length_nil, List.filter_nil, List.map_nil, ↓List.getElem?_cons_zero, ↓List.getElem?_cons_succ, List.getElem?_cons_zero, List.getElem?_cons_succ, List.set_cons_zero, List.set_cons_succ, Option.join_some, Option.join_none, Option.map_some, List.all_cons, List.all_nil, Value.oneCell', reduceIte, reduceCtorEq, Nat.reduceEqDiff, Nat.reduceAdd, Nat.reduceMul, Nat.reduceLT, Nat.reduceBEq, Nat.reduceLeDiff, Nat.reduceSub, List.size_toArray]) (fun _ h => by cases h) ⟨rfl, fun _ h => by cases h⟩)
  try simp -implicitDefEqProofs (disch := first | decide | exact of_eq_true (eq_true rfl) | omega | assumption) only [ ↓vcD, vcE, evs, evP, evB, intsOf, fillC, Value.cells, pt, List.append_nil, List.nil_append, List.cons_append, List.length_cons, List.length_nil, List.filter_nil, List.map_nil, ↓List.getElem?_cons_zero, ↓List.getElem?_cons_succ, List.getElem?_cons_zero, List.getElem?_cons_succ, List.set_cons_zero, List.set_cons_succ, Option.join_some, Option.join_none, Option.map_some, List.all_cons, List.all_nil, Value.oneCell', reduceIte, reduceCtorEq, Nat.reduceEqDiff, Nat.reduceAdd, Nat.reduceMul, Nat.reduceLT, Nat.reduceBEq, Nat.reduceLeDiff, Nat.reduceSub, List.size_toArray]
  refine ITri.seq ?_
  refine ITri.seq ?_
  refine ITri.reg pokT ?_; simp -implicitDefEqProofs (disch := first | decide | exact of_eq_true (eq_true rfl) | omega | assumption) only [eq_self, decide_true, Bool.not_true,  ↓vcD, vcE, evs, evP, evB, intsOf, fillC, Value.cells, pt, List.append_nil, List.nil_append, List.cons_append, List.length_cons, List.length_nil, List.filter_nil, List.map_nil, ↓List.getElem?_cons_zero, ↓List.getElem?_cons_succ, List.getElem?_cons_zero, List.getElem?_cons_succ, List.set_cons_zero, List.set_cons_succ, Option.join_some, Option.join_none, Option.map_some, List.all_cons, List.all_nil, Value.oneCell', reduceIte, reduceCtorEq, Nat.reduceEqDiff, Nat.reduceAdd, Nat.reduceMul, Nat.reduceLT, Nat.reduceBEq, Nat.reduceLeDiff, Nat.reduceSub, List.size_toArray] -- r50
  refine ITri.cond (v := false) rfl (fun h => by cases h) (fun _ => ?_); refine ITri.skip ?_; simp only [SeqQ_normal, BlkQ_normal]
  refine ITri.seq ?_
  refine ITri.seq ?_
  refine ITri.reg pokT ?_; simp -implicitDefEqProofs (disch := first | decide | exact of_eq_true (eq_true rfl) | omega | assumption) only [ ↓vcD, vcE, evs, evP, evB, intsOf, fillC, Value.cells, pt, List.append_nil, List.nil_append, List.cons_append, List.length_cons, List.length_nil, List.filter_nil, List.map_nil, ↓List.getElem?_cons_zero, ↓List.getElem?_cons_succ, List.getElem?_cons_zero, List.getElem?_cons_succ, List.set_cons_zero, List.set_cons_succ, Option.join_some, Option.join_none, Option.map_some, List.all_cons, List.all_nil, Value.oneCell', reduceIte, reduceCtorEq, Nat.reduceEqDiff, Nat.reduceAdd, Nat.reduceMul, Nat.reduceLT, Nat.reduceBEq, Nat.reduceLeDiff, Nat.reduceSub, List.size_toArray] -- r52
  refine ITri.block ?_
  refine ITri.loop (fun k : Nat => [(7, .slice (some ⟨3, 0, none⟩) A.length openB), (24, .slice (some ⟨4, 0, none⟩) S.length openB), (25, .int .i64 k)]) (fun _ => []) (fun _ => Hp 3 [none, some (.cells ⟨rows eU rs, 0, false⟩), some (.cells ⟨rows eN vs, 0, false⟩), some (.cells ⟨rows eU A, 3, true⟩), some (.cells ⟨rows eU S, 3, true⟩)]) (fun k => k ≤ S.length) (fun k => S.length - k) 0 (Nat.zero_le _) (Wk.sub ⟨rfl, rfl, rfl, trivial⟩) fun k hk => ?_
  refine ITri.seq ?_
  refine ITri.seq ?_
  refine ITri.reg pokT ?_; simp -implicitDefEqProofs (disch := first | decide | exact of_eq_true (eq_true rfl) | omega | assumption) only [ ↓vcD, vcE, evs, evP, evB, intsOf, fillC, Value.cells, pt, List.append_nil, List.nil_append, List.cons_append, List.length_cons, List.length_nil, List.filter_nil, List.map_nil, ↓List.getElem?_cons_zero, ↓List.getElem?_cons_succ, List.getElem?_cons_zero, List.getElem?_cons_succ, List.set_cons_zero, List.set_cons_succ, Option.join_some, Option.join_none, Option.map_some, List.all_cons, List.all_nil, Value.oneCell', reduceIte, reduceCtorEq, Nat.reduceEqDiff, Nat.reduceAdd, Nat.reduceMul, Nat.reduceLT, Nat.reduceBEq, Nat.reduceLeDiff, Nat.reduceSub, List.size_toArray] -- r53
  refine ITri.condD (by rfl) (fun h2 => ?_) (fun h2 => ?_)
  · have hkr : k < S.length := by omega
    have htk : takeC (rows eU S) (k * 3) 3 = some [.int .i64 (nth S k).1, .int .i64 (nth S k).2.1, .int .i64 (nth S k).2.2] := takeU hkr
    refine ITri.skip ?_; simp only [SeqQ_normal, BlkQ_normal]
    refine ITri.seq ?_
    refine ITri.block ?_
    refine ITri.seq ?_
    refine ITri.reg pokT ?_; simp -implicitDefEqProofs (disch := first | decide | exact of_eq_true (eq_true rfl) | omega | assumption) only [htk,  ↓vcD, vcE, evs, evP, evB, intsOf, fillC, Value.cells, pt, List.append_nil, List.nil_append, List.cons_append, List.length_cons, List.length_nil, List.filter_nil, List.map_nil, ↓List.getElem?_cons_zero, ↓List.getElem?_cons_succ, List.getElem?_cons_zero, List.getElem?_cons_succ, List.set_cons_zero, List.set_cons_succ, Option.join_some, Option.join_none, Option.map_some, List.all_cons, List.all_nil, Value.oneCell', reduceIte, reduceCtorEq, Nat.reduceEqDiff, Nat.reduceAdd, Nat.reduceMul, Nat.reduceLT, Nat.reduceBEq, Nat.reduceLeDiff, Nat.reduceSub, List.size_toArray] -- r55
    refine ⟨_, _, has_f (x := nth S k) (l := A) rfl (by omega) (hSA _ (nth_mem hkr)) (sees0 rfl (of_decide_eq_true rfl)) (Rd.hq rfl rfl), ?_⟩
    try simp -implicitDefEqProofs (disch := first | decide | exact of_eq_true (eq_true rfl) | omega | assumption) only [ ↓vcD, vcE, evs, evP, evB, intsOf, fillC, Value.cells, pt, List.append_nil, List.nil_append, List.cons_append, List.length_cons, List.length_nil, List.filter_nil, List.map_nil, ↓List.getElem?_cons_zero, ↓List.getElem?_cons_succ, List.getElem?_cons_zero, List.getElem?_cons_succ, List.set_cons_zero, List.set_cons_succ, Option.join_some, Option.join_none, Option.map_some, List.all_cons, List.all_nil, Value.oneCell', reduceIte, reduceCtorEq, Nat.reduceEqDiff, Nat.reduceAdd, Nat.reduceMul, Nat.reduceLT, Nat.reduceBEq, Nat.reduceLeDiff, Nat.reduceSub, List.size_toArray]
    refine ITri.cond (v := false) rfl (fun h => by cases h) (fun _ => ?_); refine ITri.skip ?_; simp only [SeqQ_normal, BlkQ_normal]
    refine ITri.reg pokT ?_; simp -implicitDefEqProofs (disch := first | decide | exact of_eq_true (eq_true rfl) | omega | assumption) only [ ↓vcD, vcE, evs, evP, evB, intsOf, fillC, Value.cells, pt, List.append_nil, List.nil_append, List.cons_append, List.length_cons, List.length_nil, List.filter_nil, List.map_nil, ↓List.getElem?_cons_zero, ↓List.getElem?_cons_succ, List.getElem?_cons_zero, List.getElem?_cons_succ, List.set_cons_zero, List.set_cons_succ, Option.join_some, Option.join_none, Option.map_some, List.all_cons, List.all_nil, Value.oneCell', reduceIte, reduceCtorEq, Nat.reduceEqDiff, Nat.reduceAdd, Nat.reduceMul, Nat.reduceLT, Nat.reduceBEq, Nat.reduceLeDiff, Nat.reduceSub, List.size_toArray] -- r54
    exact LoopQ.next (k + 1) (by omega) (by omega) (Wk.sub ⟨rfl, rfl, rfl, trivial⟩)
  refine ITri.exit ?_; try simp -implicitDefEqProofs (disch := first | decide | exact of_eq_true (eq_true rfl) | omega | assumption) only [ ↓vcD, vcE, evs, evP, evB, intsOf, fillC, Value.cells, pt, List.append_nil, List.nil_append, List.cons_append, List.length_cons, List.length_nil, List.filter_nil, List.map_nil, ↓List.getElem?_cons_zero, ↓List.getElem?_cons_succ, List.getElem?_cons_zero, List.getElem?_cons_succ, List.set_cons_zero, List.set_cons_succ, Option.join_some, Option.join_none, Option.map_some, List.all_cons, List.all_nil, Value.oneCell', reduceIte, reduceCtorEq, Nat.reduceEqDiff, Nat.reduceAdd, Nat.reduceMul, Nat.reduceLT, Nat.reduceBEq, Nat.reduceLeDiff, Nat.reduceSub, List.size_toArray]
  refine ITri.seq ?_
  refine ITri.reg pokT ?_; simp -implicitDefEqProofs (disch := first | decide | exact of_eq_true (eq_true rfl) | omega | assumption) only [ ↓vcD, vcE, evs, evP, evB, intsOf, fillC, Value.cells, pt, List.append_nil, List.nil_append, List.cons_append, List.length_cons, List.length_nil, List.filter_nil, List.map_nil, ↓List.getElem?_cons_zero, ↓List.getElem?_cons_succ, List.getElem?_cons_zero, List.getElem?_cons_succ, List.set_cons_zero, List.set_cons_succ, Option.join_some, Option.join_none, Option.map_some, List.all_cons, List.all_nil, Value.oneCell', reduceIte, reduceCtorEq, Nat.reduceEqDiff, Nat.reduceAdd, Nat.reduceMul, Nat.reduceLT, Nat.reduceBEq, Nat.reduceLeDiff, Nat.reduceSub, List.size_toArray] -- r57
  refine ⟨_, _, knownT, ?_⟩
  try simp -implicitDefEqProofs (disch := first | decide | exact of_eq_true (eq_true rfl) | omega | assumption) only [ ↓vcD, vcE, evs, evP, evB, intsOf, fillC, Value.cells, pt, List.append_nil, List.nil_append, List.cons_append, List.length_cons, List.length_nil, List.filter_nil, List.map_nil, ↓List.getElem?_cons_zero, ↓List.getElem?_cons_succ, List.getElem?_cons_zero, List.getElem?_cons_succ, List.set_cons_zero, List.set_cons_succ, Option.join_some, Option.join_none, Option.map_some, List.all_cons, List.all_nil, Value.oneCell', reduceIte, reduceCtorEq, Nat.reduceEqDiff, Nat.reduceAdd, Nat.reduceMul, Nat.reduceLT, Nat.reduceBEq, Nat.reduceLeDiff, Nat.reduceSub, List.size_toArray]
  refine ITri.ret ?_; exact EndR.plain (by simp) (by rfl) (by rfl) (by rfl)
end Go.Proofs.Ytfmcdbcoljpomaa
