/-
  Chapter 11, by names: time passes; new parts; what a lot says of itself.
-/
import Derived.Test.YthoigkgjidcklaaWoE
set_option linter.unusedSimpArgs false
set_option linter.unusedVariables false
namespace Go.Proofs.Ythoigkgjidcklaa
open Go.RowKit Go.Vm
set_option maxRecDepth 100000
/- (*boule/shop.Shop).Tick$1 · slots 9 · names 0:l 1:l · results [] -/
def ir66_r0 : IC := .reg [⟨some 2, none, false, .mv (.t 0)⟩,
  ⟨some 3, none, false, .nilck (.t 2)⟩,
  ⟨some 4, none, false, .fad 0 (.t 3)⟩,
  ⟨some 5, none, false, .ldc (.t 4)⟩,
  ⟨some 6, none, false, .ar .add (.t 5) (.k (.int .i64 1))⟩,
  ⟨some 7, none, false, .nilck (.t 2)⟩,
  ⟨some 8, none, false, .fad 0 (.t 7)⟩,
  ⟨none, none, false, .st 1 (.t 8) (.t 6)⟩] (some [])
def ir66 : IC := ir66_r0
theorem fn66 : FnIs Try.prog 66 ir66 9 [] := ⟨Try.f66, Try.f66.body.getD .skip, Try.func66, by kernel_rfl, by kernel_rfl, by kernel_rfl, by kernel_rfl⟩
/- (*boule/shop.tool).end · slots 36 · names 0:t 1:since 2:each 3:t 4:since 5:each 6:lots 7:_ 8:l · results [] -/
def ir65_r0 : IC := .reg [⟨some 9, none, false, .mv (.t 0)⟩,
  ⟨some 10, none, false, .nilck (.t 9)⟩,
  ⟨some 11, none, false, .fad 6 (.t 10)⟩,
  ⟨some 12, none, false, .ldc (.t 11)⟩,
  ⟨some 13, none, false, .nilck (.t 12)⟩,
  ⟨some 14, none, false, .fad 3 (.t 13)⟩,
  ⟨some 15, none, false, .ldc (.t 14)⟩,
  ⟨some 6, none, false, .mv (.t 15)⟩] (some [0, 1, 2, 6])
def ir65_r1 : IC := .reg [⟨some 16, none, false, .mv (.t 0)⟩,
  ⟨some 17, none, false, .nilck (.t 16)⟩,
  ⟨some 18, none, false, .fad 6 (.t 17)⟩,
  ⟨none, none, false, .st 1 (.t 18) (.k (.pointer none))⟩] (some [1, 2, 6])
def ir65_r2 : IC := .reg [⟨some 19, none, false, .mv (.t 6)⟩,
  ⟨some 20, none, false, .len (.t 19)⟩,
  ⟨some 21, none, false, .mv (.k (.int .i64 0))⟩] (some [1, 2, 19, 20, 21])
def ir65_r3 : IC := .reg [⟨some 22, none, false, .cmp .lss (.t 21) (.t 20)⟩] (some [1, 2, 19, 20, 21, 22])
def ir65_1 : IC := .cond (.t 22) .skip (.exit 0)
def ir65_r4 : IC := .reg [⟨some 23, none, false, .iad 1 (.t 19) (.t 21)⟩,
  ⟨some 24, none, false, .ldc (.t 23)⟩,
  ⟨some 8, none, false, .mv (.t 24)⟩] (some [1, 2, 8, 19, 20, 21])
def ir65_r5 : IC := .reg [⟨some 25, none, false, .mv (.t 8)⟩,
  ⟨some 26, none, false, .mv (.t 8)⟩,
  ⟨some 27, none, false, .mv (.t 1)⟩,
  ⟨some 28, none, false, .nilck (.t 25)⟩,
  ⟨some 29, none, false, .fad 1 (.t 28)⟩,
  ⟨none, none, false, .st 1 (.t 29) (.k (.pointer none))⟩,
  ⟨some 30, none, false, .nilck (.t 26)⟩,
  ⟨some 31, none, false, .fad 2 (.t 30)⟩,
  ⟨none, none, false, .st 1 (.t 31) (.t 27)⟩] (some [1, 2, 8, 19, 20, 21])
def ir65_r6 : IC := .reg [⟨some 32, none, false, .mv (.t 2)⟩,
  ⟨some 33, none, false, .mv (.t 8)⟩,
  ⟨some 34, none, false, .call (.t 32) [(.t 33)]⟩] (some [1, 2, 19, 20, 21])
def ir65_2 : IC := .seq ir65_r5 ir65_r6
def ir65_3 : IC := .seq ir65_r4 ir65_2
def ir65_4 : IC := .block 1 ir65_3
def ir65_r7 : IC := .reg [⟨some 35, none, false, .ar .add (.t 21) (.k (.int .i64 1))⟩,
  ⟨some 21, none, false, .mv (.t 35)⟩] (some [1, 2, 19, 20, 21])
def ir65_5 : IC := .seq ir65_4 ir65_r7
def ir65_6 : IC := .seq ir65_1 ir65_5
def ir65_7 : IC := .seq ir65_r3 ir65_6
def ir65_8 : IC := .loop ir65_7
def ir65_9 : IC := .block 0 ir65_8
def ir65_10 : IC := .seq ir65_r2 ir65_9
def ir65_11 : IC := .seq ir65_r1 ir65_10
def ir65_12 : IC := .seq ir65_r0 ir65_11
def ir65 : IC := ir65_12
theorem fn65 : FnIs Try.prog 65 ir65 36 [] := ⟨Try.f65, Try.f65.body.getD .skip, Try.func65, by kernel_rfl, by kernel_rfl, by kernel_rfl, by kernel_rfl⟩
/- (*boule/shop.Shop).Tick · slots 117 · names 0:s 1:seconds 2:s 3:seconds 5:_ 6:t 7:_ 8:l · results [4] -/
def ir23_r0 : IC := .reg [⟨some 4, none, false, .mv (.k (.int .i64 0))⟩] (some [0, 1])
def ir23_r1 : IC := .reg [⟨some 10, none, false, .mv (.t 0)⟩,
  ⟨some 11, none, false, .gen (.binOp .eql 33 (.tmp 10) (.const (.pointer none)) 33)⟩,
  ⟨some 9, none, false, .mv (.t 11)⟩] (some [0, 1, 9])
def ir23_r2 : IC := .reg [⟨some 4, none, false, .mv (.k (.int .i64 1))⟩] (some [4])
def ir23_1 : IC := .seq ir23_r2 .ret
def ir23_r3 : IC := .reg [⟨some 13, none, false, .mv (.t 1)⟩,
  ⟨some 14, none, false, .call (.f 29) [(.t 13), (.k (.int .i64 1)), (.k (.int .i64 1000000))]⟩,
  ⟨some 15, none, false, .not (.t 14)⟩,
  ⟨some 16, none, false, .mv (.t 15)⟩,
  ⟨some 17, some (16, false), false, .mv (.t 0)⟩,
  ⟨some 18, some (16, false), false, .nilck (.t 17)⟩,
  ⟨some 19, some (16, false), false, .fad 4 (.t 18)⟩,
  ⟨some 20, some (16, false), false, .ldc (.t 19)⟩,
  ⟨some 21, some (16, false), false, .mv (.t 1)⟩,
  ⟨some 22, some (16, false), false, .ar .add (.t 20) (.t 21)⟩,
  ⟨some 23, some (16, false), false, .cmp .gtr (.t 22) (.k (.int .i64 100000000))⟩,
  ⟨some 24, none, false, .pick (.t 16) (.k (.bool true)) (.t 23)⟩,
  ⟨some 12, none, false, .mv (.t 24)⟩] (some [0, 1, 12])
def ir23_r4 : IC := .reg [⟨some 4, none, false, .mv (.k (.int .i64 3))⟩] (some [4])
def ir23_2 : IC := .seq ir23_r4 .ret
def ir23_3 : IC := .cond (.t 12) ir23_2 .skip
def ir23_4 : IC := .seq ir23_r3 ir23_3
def ir23_5 : IC := .cond (.t 9) ir23_1 ir23_4
def ir23_6 : IC := .seq ir23_r1 ir23_5
def ir23_7 : IC := .block 0 ir23_6
def ir23_r5 : IC := .reg [⟨some 25, none, false, .mv (.t 0)⟩,
  ⟨some 26, none, false, .nilck (.t 25)⟩,
  ⟨some 27, none, false, .fad 4 (.t 26)⟩,
  ⟨some 28, none, false, .ldc (.t 27)⟩,
  ⟨some 29, none, false, .mv (.t 1)⟩,
  ⟨some 30, none, false, .ar .add (.t 28) (.t 29)⟩,
  ⟨some 31, none, false, .nilck (.t 25)⟩,
  ⟨some 32, none, false, .fad 4 (.t 31)⟩,
  ⟨none, none, false, .st 1 (.t 32) (.t 30)⟩] (some [0])
def ir23_r6 : IC := .reg [⟨some 33, none, false, .mv (.t 0)⟩,
  ⟨some 34, none, false, .nilck (.t 33)⟩,
  ⟨some 35, none, false, .fad 2 (.t 34)⟩,
  ⟨some 36, none, false, .ldc (.t 35)⟩,
  ⟨some 37, none, false, .len (.t 36)⟩,
  ⟨some 38, none, false, .mv (.k (.int .i64 0))⟩] (some [0, 36, 37, 38])
def ir23_r7 : IC := .reg [⟨some 39, none, false, .cmp .lss (.t 38) (.t 37)⟩] (some [0, 36, 37, 38, 39])
def ir23_8 : IC := .cond (.t 39) .skip (.exit 1)
def ir23_r8 : IC := .reg [⟨some 40, none, false, .iad 1 (.t 36) (.t 38)⟩,
  ⟨some 41, none, false, .ldc (.t 40)⟩,
  ⟨some 6, none, false, .mv (.t 41)⟩] (some [0, 6, 36, 37, 38])
def ir23_r9 : IC := .draw [(⟨some 42, none, false, .mv (.t 6)⟩, false, 0, 0),
  (⟨some 43, none, false, .nilck (.t 42)⟩, false, 1, 0),
  (⟨some 44, none, false, .fad 6 (.t 43)⟩, false, 3, 0),
  (⟨some 45, none, false, .ldc (.t 44)⟩, true, 7, 0),
  (⟨some 46, none, false, .gen (.binOp .neq 126 (.tmp 45) (.const (.pointer none)) 126)⟩, false, 15, 0),
  (⟨some 47, none, false, .mv (.t 46)⟩, false, 31, 0),
  (⟨some 48, some (47, true), false, .mv (.t 6)⟩, false, 63, 0),
  (⟨some 49, some (47, true), false, .nilck (.t 48)⟩, false, 127, 0),
  (⟨some 50, some (47, true), false, .fad 6 (.t 49)⟩, false, 255, 0),
  (⟨some 51, some (47, true), false, .ldc (.t 50)⟩, false, 511, 1),
  (⟨some 52, some (47, true), false, .nilck (.t 51)⟩, false, 1023, 0),
  (⟨some 53, some (47, true), false, .fad 1 (.t 52)⟩, false, 2047, 0),
  (⟨some 54, some (47, true), false, .ldc (.t 53)⟩, false, 4095, 1),
  (⟨some 55, some (47, true), false, .mv (.t 0)⟩, false, 63, 0),
  (⟨some 56, some (47, true), false, .nilck (.t 55)⟩, false, 8255, 0),
  (⟨some 57, some (47, true), false, .fad 4 (.t 56)⟩, false, 24639, 0),
  (⟨some 58, some (47, true), false, .ldc (.t 57)⟩, false, 57407, 4096),
  (⟨some 59, some (47, true), false, .cmp .leq (.t 54) (.t 58)⟩, false, 131071, 0),
  (⟨some 60, none, false, .pick (.t 47) (.t 59) (.k (.bool false))⟩, false, 262143, 0)] (some [0, 6, 36, 37, 38, 60])
def ir23_r10 : IC := .reg [⟨some 61, none, false, .mv (.t 6)⟩,
  ⟨some 62, none, false, .mv (.t 6)⟩,
  ⟨some 63, none, false, .nilck (.t 62)⟩,
  ⟨some 64, none, false, .fad 6 (.t 63)⟩,
  ⟨some 65, none, false, .ldc (.t 64)⟩,
  ⟨some 66, none, false, .nilck (.t 65)⟩,
  ⟨some 67, none, false, .fad 1 (.t 66)⟩,
  ⟨some 68, none, false, .ldc (.t 67)⟩,
  ⟨some 69, none, false, .call (.f 65) [(.t 61), (.t 68), (.f 66)]⟩] (some [0, 36, 37, 38])
def ir23_9 : IC := .cond (.t 60) ir23_r10 .skip
def ir23_10 : IC := .seq ir23_r9 ir23_9
def ir23_11 : IC := .seq ir23_r8 ir23_10
def ir23_12 : IC := .block 2 ir23_11
def ir23_r11 : IC := .reg [⟨some 70, none, false, .ar .add (.t 38) (.k (.int .i64 1))⟩,
  ⟨some 38, none, false, .mv (.t 70)⟩] (some [0, 36, 37, 38])
def ir23_13 : IC := .seq ir23_12 ir23_r11
def ir23_14 : IC := .seq ir23_8 ir23_13
def ir23_15 : IC := .seq ir23_r7 ir23_14
def ir23_16 : IC := .loop ir23_15
def ir23_17 : IC := .block 1 ir23_16
def ir23_18 : IC := .seq ir23_r6 ir23_17
def ir23_r12 : IC := .reg [⟨some 71, none, false, .mv (.t 0)⟩,
  ⟨some 72, none, false, .nilck (.t 71)⟩,
  ⟨some 73, none, false, .fad 3 (.t 72)⟩,
  ⟨some 74, none, false, .ldc (.t 73)⟩,
  ⟨some 75, none, false, .len (.t 74)⟩,
  ⟨some 76, none, false, .mv (.k (.int .i64 0))⟩] (some [0, 74, 75, 76])
def ir23_r13 : IC := .reg [⟨some 77, none, false, .cmp .lss (.t 76) (.t 75)⟩] (some [0, 74, 75, 76, 77])
def ir23_19 : IC := .cond (.t 77) .skip (.exit 3)
def ir23_r14 : IC := .reg [⟨some 78, none, false, .iad 1 (.t 74) (.t 76)⟩,
  ⟨some 79, none, false, .ldc (.t 78)⟩,
  ⟨some 8, none, false, .mv (.t 79)⟩] (some [0, 8, 74, 75, 76])
def ir23_r15 : IC := .draw [(⟨some 80, none, false, .mv (.t 8)⟩, false, 0, 0),
  (⟨some 81, none, false, .nilck (.t 80)⟩, false, 1, 0),
  (⟨some 82, none, false, .fad 1 (.t 81)⟩, false, 3, 0),
  (⟨some 83, none, false, .ldc (.t 82)⟩, true, 7, 0),
  (⟨some 84, none, false, .gen (.binOp .eql 122 (.tmp 83) (.const (.pointer none)) 122)⟩, false, 15, 0),
  (⟨some 85, none, false, .mv (.t 84)⟩, false, 31, 0),
  (⟨some 86, some (85, true), false, .mv (.t 0)⟩, false, 63, 0),
  (⟨some 87, some (85, true), false, .mv (.t 8)⟩, false, 63, 0),
  (⟨some 88, some (85, true), false, .call (.f 67) [(.t 86), (.t 87)]⟩, true, 255, 0),
  (⟨some 89, some (85, true), false, .not (.t 88)⟩, false, 511, 0),
  (⟨some 90, none, false, .pick (.t 85) (.t 89) (.k (.bool false))⟩, false, 1023, 0),
  (⟨some 91, none, false, .mv (.t 90)⟩, false, 2047, 0),
  (⟨some 92, some (91, true), false, .mv (.t 0)⟩, false, 4095, 0),
  (⟨some 93, some (91, true), false, .nilck (.t 92)⟩, false, 8191, 0),
  (⟨some 94, some (91, true), false, .fad 4 (.t 93)⟩, false, 16383, 0),
  (⟨some 95, some (91, true), false, .ldc (.t 94)⟩, false, 32767, 1),
  (⟨some 96, some (91, true), false, .mv (.t 8)⟩, false, 4095, 0),
  (⟨some 97, some (91, true), false, .nilck (.t 96)⟩, false, 69631, 0),
  (⟨some 98, some (91, true), false, .fad 2 (.t 97)⟩, false, 200703, 0),
  (⟨some 99, some (91, true), false, .ldc (.t 98)⟩, false, 462847, 32768),
  (⟨some 100, some (91, true), false, .ar .sub (.t 95) (.t 99)⟩, false, 1048575, 0),
  (⟨some 101, some (91, true), false, .mv (.t 0)⟩, false, 4095, 0),
  (⟨some 102, some (91, true), false, .nilck (.t 101)⟩, false, 2101247, 0),
  (⟨some 103, some (91, true), false, .fad 1 (.t 102)⟩, false, 6295551, 0),
  (⟨some 104, some (91, true), false, .ldc (.t 103)⟩, false, 14684159, 491520),
  (⟨some 105, some (91, true), false, .mv (.t 8)⟩, false, 4095, 0),
  (⟨some 106, some (91, true), false, .nilck (.t 105)⟩, false, 33558527, 0),
  (⟨some 107, some (91, true), false, .fad 0 (.t 106)⟩, false, 100667391, 0),
  (⟨some 108, some (91, true), false, .ldc (.t 107)⟩, false, 234885119, 15171584),
  (⟨some 109, some (91, true), false, .iad 2 (.t 104) (.t 108)⟩, false, 534777855, 0),
  (⟨some 110, some (91, true), false, .fad 1 (.t 109)⟩, false, 1071648767, 0),
  (⟨some 111, some (91, true), false, .ldc (.t 110)⟩, false, 2145390591, 491520),
  (⟨some 112, some (91, true), false, .cmp .gtr (.t 100) (.t 111)⟩, false, 4294967295, 0),
  (⟨some 113, none, false, .pick (.t 91) (.t 112) (.k (.bool false))⟩, false, 8589934591, 0)] (some [0, 8, 74, 75, 76, 113])
def ir23_r16 : IC := .reg [⟨some 114, none, false, .mv (.t 8)⟩,
  ⟨some 115, none, false, .call (.f 68) [(.t 114), (.k (.int .u8 2))]⟩] (some [0, 74, 75, 76])
def ir23_20 : IC := .cond (.t 113) ir23_r16 .skip
def ir23_21 : IC := .seq ir23_r15 ir23_20
def ir23_22 : IC := .seq ir23_r14 ir23_21
def ir23_23 : IC := .block 4 ir23_22
def ir23_r17 : IC := .reg [⟨some 116, none, false, .ar .add (.t 76) (.k (.int .i64 1))⟩,
  ⟨some 76, none, false, .mv (.t 116)⟩] (some [0, 74, 75, 76])
def ir23_24 : IC := .seq ir23_23 ir23_r17
def ir23_25 : IC := .seq ir23_19 ir23_24
def ir23_26 : IC := .seq ir23_r13 ir23_25
def ir23_27 : IC := .loop ir23_26
def ir23_28 : IC := .block 3 ir23_27
def ir23_29 : IC := .seq ir23_r12 ir23_28
def ir23_r18 : IC := .reg [⟨some 4, none, false, .mv (.k (.int .i64 0))⟩] (some [4])
def ir23_30 : IC := .seq ir23_r18 .ret
def ir23_31 : IC := .seq ir23_29 ir23_30
def ir23_32 : IC := .seq ir23_18 ir23_31
def ir23_33 : IC := .seq ir23_r5 ir23_32
def ir23_34 : IC := .seq ir23_7 ir23_33
def ir23_35 : IC := .seq ir23_r0 ir23_34
def ir23 : IC := ir23_35
theorem fn23 : FnIs Try.prog 23 ir23 117 [.tmp 4] := ⟨Try.f23, Try.f23.body.getD .skip, Try.func23, by kernel_rfl, by kernel_rfl, by kernel_rfl, by kernel_rfl⟩
/- (*boule/shop.Shop).Service · slots 26 · names 0:s 1:number 2:s 3:number 5:t 6:e · results [4] -/
def ir22_r0 : IC := .reg [⟨some 4, none, false, .mv (.k (.int .i64 0))⟩] (some [0, 1])
def ir22_r1 : IC := .reg [⟨some 8, none, false, .mv (.t 0)⟩,
  ⟨some 9, none, false, .mv (.t 1)⟩,
  ⟨some 10, none, false, .call (.f 51) [(.t 8), (.t 9)]⟩,
  ⟨some 7, none, false, .mv (.t 10)⟩,
  ⟨some 11, none, false, .ext (.t 7) 0⟩,
  ⟨some 12, none, false, .ext (.t 7) 1⟩,
  ⟨some 5, none, false, .mv (.t 11)⟩,
  ⟨some 6, none, false, .mv (.t 12)⟩] (some [5, 6])
def ir22_r2 : IC := .reg [⟨some 14, none, false, .mv (.t 6)⟩,
  ⟨some 15, none, false, .cmp .neq (.t 14) (.k (.int .i64 0))⟩,
  ⟨some 13, none, false, .mv (.t 15)⟩] (some [5, 6, 13])
def ir22_r3 : IC := .reg [⟨some 16, none, false, .mv (.t 6)⟩,
  ⟨some 4, none, false, .mv (.t 16)⟩] (some [4])
def ir22_1 : IC := .seq ir22_r3 .ret
def ir22_r4 : IC := .reg [⟨some 18, none, false, .mv (.t 5)⟩,
  ⟨some 19, none, false, .nilck (.t 18)⟩,
  ⟨some 20, none, false, .fad 6 (.t 19)⟩,
  ⟨some 21, none, false, .ldc (.t 20)⟩,
  ⟨some 22, none, false, .gen (.binOp .neq 126 (.tmp 21) (.const (.pointer none)) 126)⟩,
  ⟨some 17, none, false, .mv (.t 22)⟩] (some [5, 17])
def ir22_r5 : IC := .reg [⟨some 4, none, false, .mv (.k (.int .i64 9))⟩] (some [4])
def ir22_2 : IC := .seq ir22_r5 .ret
def ir22_3 : IC := .cond (.t 17) ir22_2 .skip
def ir22_4 : IC := .seq ir22_r4 ir22_3
def ir22_5 : IC := .cond (.t 13) ir22_1 ir22_4
def ir22_6 : IC := .seq ir22_r2 ir22_5
def ir22_7 : IC := .block 0 ir22_6
def ir22_r6 : IC := .reg [⟨some 23, none, false, .mv (.t 5)⟩,
  ⟨some 24, none, false, .nilck (.t 23)⟩,
  ⟨some 25, none, false, .fad 7 (.t 24)⟩,
  ⟨none, none, false, .st 1 (.t 25) (.k (.int .i64 0))⟩] (some [])
def ir22_r7 : IC := .reg [⟨some 4, none, false, .mv (.k (.int .i64 0))⟩] (some [4])
def ir22_8 : IC := .seq ir22_r7 .ret
def ir22_9 : IC := .seq ir22_r6 ir22_8
def ir22_10 : IC := .seq ir22_7 ir22_9
def ir22_11 : IC := .seq ir22_r1 ir22_10
def ir22_12 : IC := .seq ir22_r0 ir22_11
def ir22 : IC := ir22_12
theorem fn22 : FnIs Try.prog 22 ir22 26 [.tmp 4] := ⟨Try.f22, Try.f22.body.getD .skip, Try.func22, by kernel_rfl, by kernel_rfl, by kernel_rfl, by kernel_rfl⟩
/- (*boule/shop.Shop).Lot · slots 50 · names 0:s 1:number 2:s 3:number 6:l 7:e 8:x · results [4, 5] -/
def ir14_r0 : IC := .reg [⟨some 4, none, false, .alloc [(.int .i64 0), (.int .i64 0), (.int .i64 0), (.int .u8 0), (.int .i64 0)]⟩,
  ⟨some 5, none, false, .mv (.k (.int .i64 0))⟩] (some [0, 1, 4])
def ir14_r1 : IC := .reg [⟨some 10, none, false, .mv (.t 0)⟩,
  ⟨some 11, none, false, .mv (.t 1)⟩,
  ⟨some 12, none, false, .call (.f 50) [(.t 10), (.t 11)]⟩,
  ⟨some 9, none, false, .mv (.t 12)⟩,
  ⟨some 13, none, false, .ext (.t 9) 0⟩,
  ⟨some 14, none, false, .ext (.t 9) 1⟩,
  ⟨some 6, none, false, .mv (.t 13)⟩,
  ⟨some 7, none, false, .mv (.t 14)⟩] (some [4, 6, 7])
def ir14_r2 : IC := .reg [⟨some 15, none, false, .mv (.t 7)⟩,
  ⟨some 16, none, false, .cmp .neq (.t 15) (.k (.int .i64 0))⟩] (some [4, 6, 7, 16])
def ir14_r3 : IC := .reg [⟨some 17, none, false, .bld [(.int .i64 0), (.int .i64 0), (.int .i64 0), (.int .u8 0), (.int .i64 0)] []⟩,
  ⟨some 18, none, false, .mv (.t 7)⟩,
  ⟨none, none, false, .st 5 (.t 4) (.t 17)⟩,
  ⟨some 5, none, false, .mv (.t 18)⟩] (some [4, 5])
def ir14_1 : IC := .seq ir14_r3 .ret
def ir14_2 : IC := .cond (.t 16) ir14_1 .skip
def ir14_3 : IC := .seq ir14_r2 ir14_2
def ir14_r4 : IC := .draw [(⟨some 19, none, false, .mv (.t 6)⟩, false, 0, 0),
  (⟨some 20, none, false, .nilck (.t 19)⟩, false, 1, 0),
  (⟨some 21, none, false, .fad 0 (.t 20)⟩, false, 3, 0),
  (⟨some 22, none, false, .ldc (.t 21)⟩, false, 7, 1),
  (⟨some 23, none, false, .mv (.t 6)⟩, false, 0, 0),
  (⟨some 24, none, false, .nilck (.t 23)⟩, false, 16, 0),
  (⟨some 25, none, false, .fad 2 (.t 24)⟩, false, 48, 0),
  (⟨some 26, none, false, .ldc (.t 25)⟩, false, 112, 8),
  (⟨some 27, none, false, .mv (.t 6)⟩, false, 0, 0),
  (⟨some 28, none, false, .nilck (.t 27)⟩, false, 256, 0),
  (⟨some 29, none, false, .fad 3 (.t 28)⟩, false, 768, 0),
  (⟨some 30, none, false, .ldc (.t 29)⟩, false, 1792, 120),
  (⟨some 31, none, false, .mv (.t 6)⟩, false, 0, 0),
  (⟨some 32, none, false, .nilck (.t 31)⟩, false, 4096, 0),
  (⟨some 33, none, false, .fad 4 (.t 32)⟩, false, 12288, 0),
  (⟨some 34, none, false, .ldc (.t 33)⟩, false, 28672, 1912),
  (⟨some 35, none, false, .bld [(.int .i64 0), (.int .i64 0), (.int .i64 0), (.int .u8 0), (.int .i64 0)] [(0, 1, (.t 22)), (1, 1, (.k (.int .i64 (-1)))), (2, 1, (.t 26)), (3, 1, (.t 30)), (4, 1, (.t 34))]⟩, false, 65535, 0),
  (⟨some 8, none, false, .alloc [(.int .i64 0), (.int .i64 0), (.int .i64 0), (.int .u8 0), (.int .i64 0)]⟩, false, 0, 30584),
  (⟨none, none, false, .st 5 (.t 8) (.t 35)⟩, true, 262143, 0)] (some [4, 6, 8])
def ir14_r5 : IC := .reg [⟨some 36, none, false, .mv (.t 6)⟩,
  ⟨some 37, none, false, .nilck (.t 36)⟩,
  ⟨some 38, none, false, .fad 1 (.t 37)⟩,
  ⟨some 39, none, false, .ldc (.t 38)⟩,
  ⟨some 40, none, false, .gen (.binOp .neq 122 (.tmp 39) (.const (.pointer none)) 122)⟩] (some [4, 6, 8, 40])
def ir14_r6 : IC := .reg [⟨some 41, none, false, .mv (.t 6)⟩,
  ⟨some 42, none, false, .nilck (.t 41)⟩,
  ⟨some 43, none, false, .fad 1 (.t 42)⟩,
  ⟨some 44, none, false, .ldc (.t 43)⟩,
  ⟨some 45, none, false, .nilck (.t 44)⟩,
  ⟨some 46, none, false, .fad 5 (.t 45)⟩,
  ⟨some 47, none, false, .ldc (.t 46)⟩,
  ⟨some 48, none, false, .fad 1 (.t 8)⟩,
  ⟨none, none, false, .st 1 (.t 48) (.t 47)⟩] (some [4, 8])
def ir14_4 : IC := .cond (.t 40) ir14_r6 .skip
def ir14_5 : IC := .seq ir14_r5 ir14_4
def ir14_r7 : IC := .reg [⟨some 49, none, false, .lda 5 (.t 8)⟩,
  ⟨none, none, false, .st 5 (.t 4) (.t 49)⟩,
  ⟨some 5, none, false, .mv (.k (.int .i64 0))⟩] (some [4, 5])
def ir14_6 : IC := .seq ir14_r7 .ret
def ir14_7 : IC := .seq ir14_5 ir14_6
def ir14_8 : IC := .seq ir14_r4 ir14_7
def ir14_9 : IC := .seq ir14_3 ir14_8
def ir14_10 : IC := .seq ir14_r1 ir14_9
def ir14_11 : IC := .seq ir14_r0 ir14_10
def ir14 : IC := ir14_11
theorem fn14 : FnIs Try.prog 14 ir14 50 [.cell 4 47, .tmp 5] := ⟨Try.f14, Try.f14.body.getD .skip, Try.func14, by kernel_rfl, by kernel_rfl, by kernel_rfl, by kernel_rfl⟩
section
variable {A B C D : Option AObj} {n m k : Nat} {rc rt : List Rg} {rcp life now W r w since : Int} {b : Bool}
theorem step_x {T : List (Option AObj)} {run tl : Value} (hk : k ≤ 100) :
    Fc Try.prog 66 [pt 11] (Hp 3 (wM A B C D n m rc rt rcp life now W run k tl since b T)) (.tuple #[]) (Hp 3 (wM A B C D n m rc rt rcp life now W run (k + 1 : Nat) tl since b T)) := by
  have hnn : ∀ a, (notNil (.pointer (some a)) = true) = True := fun a => eq_true rfl
  have hk1 : (k : Int) + 1 = ((k + 1 : Nat) : Int) := by omega
  refine Fc.introX fn66 (by simp) (fun _ => grow_hq (by simp) (by rfl)) ?_; simp only [argF]
  refine ITri.reg pok ?_; simp -implicitDefEqProofs (disch := first | decide | exact of_eq_true (eq_true rfl) | omega | assumption) only [hnn, hk1,  ↓vcD, vcE, ↓vcG, vcF, evs, evP, evB, intsOf, fillC, Value.cells, pt, Value.oneCell', reduceIte, reduceCtorEq, Nat.reduceEqDiff, Nat.reduceAdd, Nat.reduceMul, Nat.reduceLT, Nat.reduceBEq, Nat.reduceLeDiff, Nat.reduceSub]
  exact EndX.mk (vs := []) (by simp) resF_nil rfl rfl
theorem end_x {t : Int} {s0 : Int} (hk : k ≤ 100) :
    Fc Try.prog 65 [pt 10, .int .i64 t, .func (.func 66) #[] #[]] (Hp 3 (wM A B C D n m rc rt rcp life now W (pt 23) k (pt 10) since b (stT r s0 w))) (.tuple #[])
      (Hp 3 (wM A B C D n m rc rt rcp life now W (.pointer none) (k + 1 : Nat) (.pointer none) t b (stT r s0 w))) := by
  have hnn : ∀ a, (notNil (.pointer (some a)) = true) = True := fun a => eq_true rfl
  refine Fc.introX fn65 (by simp) (fun _ => grow_hq (by simp) (by rfl)) ?_; simp only [argF]
  refine ITri.seq ?_
  refine ITri.reg pok ?_; simp -implicitDefEqProofs (disch := first | decide | exact of_eq_true (eq_true rfl) | omega | assumption) only [hnn,  ↓vcD, vcE, ↓vcG, vcF, evs, evP, evB, intsOf, fillC, Value.cells, pt, Value.oneCell', reduceIte, reduceCtorEq, Nat.reduceEqDiff, Nat.reduceAdd, Nat.reduceMul, Nat.reduceLT, Nat.reduceBEq, Nat.reduceLeDiff, Nat.reduceSub] -- r0
  refine ITri.seq ?_
  refine ITri.reg pok ?_; simp -implicitDefEqProofs (disch := first | decide | exact of_eq_true (eq_true rfl) | omega | assumption) only [hnn,  ↓vcD, vcE, ↓vcG, vcF, evs, evP, evB, intsOf, fillC, Value.cells, pt, Value.oneCell', reduceIte, reduceCtorEq, Nat.reduceEqDiff, Nat.reduceAdd, Nat.reduceMul, Nat.reduceLT, Nat.reduceBEq, Nat.reduceLeDiff, Nat.reduceSub] -- r1
  refine ITri.seq ?_
  refine ITri.reg pok ?_; simp -implicitDefEqProofs (disch := first | decide | exact of_eq_true (eq_true rfl) | omega | assumption) only [ ↓vcD, vcE, ↓vcG, vcF, evs, evP, evB, intsOf, fillC, Value.cells, pt, Value.oneCell', reduceIte, reduceCtorEq, Nat.reduceEqDiff, Nat.reduceAdd, Nat.reduceMul, Nat.reduceLT, Nat.reduceBEq, Nat.reduceLeDiff, Nat.reduceSub] -- r2
  refine ITri.block ?_ -- 0
  refine ITri.loop (fun p : Nat × Nat × Value × Int => [(1, .int .i64 t), (2, .func (.func 66) #[] #[]), (19, slO 19 1 openB), (20, .int .i64 1), (21, .int .i64 p.1)]) (fun _ => []) (fun p => Hp 3 (wM A B C D n m rc rt rcp life now W (.pointer none) p.2.1 p.2.2.1 p.2.2.2 b (stT r s0 w))) (fun p => p = (0, k, pt 10, since) ∨ p = (1, k + 1, .pointer none, t)) (fun p => 1 - p.1) (0, k, pt 10, since) (.inl rfl) (Wk.sub ⟨rfl, rfl, rfl, rfl, rfl, trivial⟩) (fun p hp => ?_)
  refine ITri.seq ?_
  refine ITri.reg pok ?_; simp -implicitDefEqProofs (disch := first | decide | exact of_eq_true (eq_true rfl) | omega | assumption) only [ ↓vcD, vcE, ↓vcG, vcF, evs, evP, evB, intsOf, fillC, Value.cells, pt, Value.oneCell', reduceIte, reduceCtorEq, Nat.reduceEqDiff, Nat.reduceAdd, Nat.reduceMul, Nat.reduceLT, Nat.reduceBEq, Nat.reduceLeDiff, Nat.reduceSub] -- r3
  refine ITri.seq ?_
  rcases hp with rfl | rfl
  · refine ITri.cond (v := true) rfl (fun _ => ?_) (fun h => by cases h)
    refine ITri.skip ?_; simp only [SeqQ_normal, BlkQ_normal]
    refine ITri.seq ?_
    refine ITri.block ?_ -- 1
    refine ITri.seq ?_
    refine ITri.reg pok ?_; simp -implicitDefEqProofs (disch := first | decide | exact of_eq_true (eq_true rfl) | omega | assumption) only [ ↓vcD, vcE, ↓vcG, vcF, evs, evP, evB, intsOf, fillC, Value.cells, pt, Value.oneCell', reduceIte, reduceCtorEq, Nat.reduceEqDiff, Nat.reduceAdd, Nat.reduceMul, Nat.reduceLT, Nat.reduceBEq, Nat.reduceLeDiff, Nat.reduceSub] -- r4
    refine ITri.seq ?_
    refine ITri.reg pok ?_; simp -implicitDefEqProofs (disch := first | decide | exact of_eq_true (eq_true rfl) | omega | assumption) only [hnn,  ↓vcD, vcE, ↓vcG, vcF, evs, evP, evB, intsOf, fillC, Value.cells, pt, Value.oneCell', reduceIte, reduceCtorEq, Nat.reduceEqDiff, Nat.reduceAdd, Nat.reduceMul, Nat.reduceLT, Nat.reduceBEq, Nat.reduceLeDiff, Nat.reduceSub] -- r5
    refine ITri.reg pok ?_; simp -implicitDefEqProofs (disch := first | decide | exact of_eq_true (eq_true rfl) | omega | assumption) only [ ↓vcD, vcE, ↓vcG, vcF, evs, evP, evB, intsOf, fillC, Value.cells, pt, Value.oneCell', reduceIte, reduceCtorEq, Nat.reduceEqDiff, Nat.reduceAdd, Nat.reduceMul, Nat.reduceLT, Nat.reduceBEq, Nat.reduceLeDiff, Nat.reduceSub] -- r6
    refine ⟨_, _, step_x hk, ?_⟩
    try simp -implicitDefEqProofs (disch := first | decide | exact of_eq_true (eq_true rfl) | omega | assumption) only [ ↓vcD, vcE, ↓vcG, vcF, evs, evP, evB, intsOf, fillC, Value.cells, pt, Value.oneCell', reduceIte, reduceCtorEq, Nat.reduceEqDiff, Nat.reduceAdd, Nat.reduceMul, Nat.reduceLT, Nat.reduceBEq, Nat.reduceLeDiff, Nat.reduceSub]
    refine ITri.reg pok ?_; simp -implicitDefEqProofs (disch := first | decide | exact of_eq_true (eq_true rfl) | omega | assumption) only [ ↓vcD, vcE, ↓vcG, vcF, evs, evP, evB, intsOf, fillC, Value.cells, pt, Value.oneCell', reduceIte, reduceCtorEq, Nat.reduceEqDiff, Nat.reduceAdd, Nat.reduceMul, Nat.reduceLT, Nat.reduceBEq, Nat.reduceLeDiff, Nat.reduceSub] -- r7
    exact LoopQ.next (1, k + 1, .pointer none, t) (.inr rfl) (by simp) (Wk.sub ⟨rfl, rfl, rfl, rfl, rfl, trivial⟩)
  · refine ITri.cond (v := false) rfl (fun h => by cases h) (fun _ => ?_)
    refine ITri.exit ?_; try simp -implicitDefEqProofs (disch := first | decide | exact of_eq_true (eq_true rfl) | omega | assumption) only [ ↓vcD, vcE, ↓vcG, vcF, evs, evP, evB, intsOf, fillC, Value.cells, pt, Value.oneCell', reduceIte, reduceCtorEq, Nat.reduceEqDiff, Nat.reduceAdd, Nat.reduceMul, Nat.reduceLT, Nat.reduceBEq, Nat.reduceLeDiff, Nat.reduceSub]
    exact EndX.mk (vs := []) (by simp) resF_nil rfl rfl
theorem service_x {T : List (Option AObj)} {tl : Value} :
    Fc Try.prog 22 [pt 5, .int .i64 0] (Hp 3 (wM A B C D n m rc rt rcp life now W (.pointer none) k tl since b T)) (.int .i64 0) (Hp 3 (wM A B C D n m rc rt rcp life now 0 (.pointer none) k tl since b T)) := by
  have hnn : ∀ a, (notNil (.pointer (some a)) = true) = True := fun a => eq_true rfl
  refine Fc.introX fn22 (by simp) (fun _ => grow_hq (by simp) (by rfl)) ?_; simp only [argF]
  refine ITri.seq ?_
  refine ITri.reg pok ?_; simp -implicitDefEqProofs (disch := first | decide | exact of_eq_true (eq_true rfl) | omega | assumption) only [ ↓vcD, vcE, ↓vcG, vcF, evs, evP, evB, intsOf, fillC, Value.cells, pt, Value.oneCell', reduceIte, reduceCtorEq, Nat.reduceEqDiff, Nat.reduceAdd, Nat.reduceMul, Nat.reduceLT, Nat.reduceBEq, Nat.reduceLeDiff, Nat.reduceSub] -- r0
  refine ITri.seq ?_
  refine ITri.reg pok ?_; simp -implicitDefEqProofs (disch := first | decide | exact of_eq_true (eq_true rfl) | omega | assumption) only [ ↓vcD, vcE, ↓vcG, vcF, evs, evP, evB, intsOf, fillC, Value.cells, pt, Value.oneCell', reduceIte, reduceCtorEq, Nat.reduceEqDiff, Nat.reduceAdd, Nat.reduceMul, Nat.reduceLT, Nat.reduceBEq, Nat.reduceLeDiff, Nat.reduceSub] -- r1
  refine ⟨_, _, tool_f (i := 0) (q := 10) (by simp) rfl rfl rfl (by omega) (by omega) rfl, ?_⟩
  try simp -implicitDefEqProofs (disch := first | decide | exact of_eq_true (eq_true rfl) | omega | assumption) only [ ↓vcD, vcE, ↓vcG, vcF, evs, evP, evB, intsOf, fillC, Value.cells, pt, Value.oneCell', reduceIte, reduceCtorEq, Nat.reduceEqDiff, Nat.reduceAdd, Nat.reduceMul, Nat.reduceLT, Nat.reduceBEq, Nat.reduceLeDiff, Nat.reduceSub]
  refine ITri.seq ?_
  refine ITri.block ?_ -- 0
  refine ITri.seq ?_
  refine ITri.reg pok ?_; simp -implicitDefEqProofs (disch := first | decide | exact of_eq_true (eq_true rfl) | omega | assumption) only [ ↓vcD, vcE, ↓vcG, vcF, evs, evP, evB, intsOf, fillC, Value.cells, pt, Value.oneCell', reduceIte, reduceCtorEq, Nat.reduceEqDiff, Nat.reduceAdd, Nat.reduceMul, Nat.reduceLT, Nat.reduceBEq, Nat.reduceLeDiff, Nat.reduceSub] -- r2
  refine ITri.cond (v := false) rfl (fun h => by cases h) (fun _ => ?_)
  refine ITri.seq ?_
  refine ITri.reg pok ?_; simp -implicitDefEqProofs (disch := first | decide | exact of_eq_true (eq_true rfl) | omega | assumption) only [hnn,  ↓vcD, vcE, ↓vcG, vcF, evs, evP, evB, intsOf, fillC, Value.cells, pt, Value.oneCell', reduceIte, reduceCtorEq, Nat.reduceEqDiff, Nat.reduceAdd, Nat.reduceMul, Nat.reduceLT, Nat.reduceBEq, Nat.reduceLeDiff, Nat.reduceSub] -- r4
  refine gen_pnln rfl (by kernel_rfl) ?_
  try simp -implicitDefEqProofs (disch := first | decide | exact of_eq_true (eq_true rfl) | omega | assumption) only [ ↓vcD, vcE, ↓vcG, vcF, evs, evP, evB, intsOf, fillC, Value.cells, pt, Value.oneCell', reduceIte, reduceCtorEq, Nat.reduceEqDiff, Nat.reduceAdd, Nat.reduceMul, Nat.reduceLT, Nat.reduceBEq, Nat.reduceLeDiff, Nat.reduceSub]
  refine ITri.cond (v := false) rfl (fun h => by cases h) (fun _ => ?_); refine ITri.skip ?_; simp only [SeqQ_normal, BlkQ_normal]
  refine ITri.seq ?_
  refine ITri.reg pok ?_; simp -implicitDefEqProofs (disch := first | decide | exact of_eq_true (eq_true rfl) | omega | assumption) only [hnn,  ↓vcD, vcE, ↓vcG, vcF, evs, evP, evB, intsOf, fillC, Value.cells, pt, Value.oneCell', reduceIte, reduceCtorEq, Nat.reduceEqDiff, Nat.reduceAdd, Nat.reduceMul, Nat.reduceLT, Nat.reduceBEq, Nat.reduceLeDiff, Nat.reduceSub] -- r6
  refine ITri.seq ?_
  refine ITri.reg pok ?_; simp -implicitDefEqProofs (disch := first | decide | exact of_eq_true (eq_true rfl) | omega | assumption) only [ ↓vcD, vcE, ↓vcG, vcF, evs, evP, evB, intsOf, fillC, Value.cells, pt, Value.oneCell', reduceIte, reduceCtorEq, Nat.reduceEqDiff, Nat.reduceAdd, Nat.reduceMul, Nat.reduceLT, Nat.reduceBEq, Nat.reduceLeDiff, Nat.reduceSub]
  refine ITri.ret ?_; exact EndX.mk (by simp) (by rfl) (by rfl) (by rfl)
/-- What Lot returns. -/
abbrev loR (step tool since held signed : Int) : Value := .agg #[.int .i64 step, .int .i64 tool, .int .i64 since, .int .u8 held, .int .i64 signed]
theorem lotS_x {run : Value} :
    Fc Try.prog 14 [pt 5, .int .i64 1] (Hp 3 (wM A B C D n m rc rt rcp life now W run k (.pointer none) since b [])) (.tuple #[loR k (-1) since 0 0, .int .i64 0])
      (Hp 3 (wM A B C D n m rc rt rcp life now W run k (.pointer none) since b [some (cO [.int .i64 k, .int .i64 (-1), .int .i64 since, .int .u8 0, .int .i64 0] 1 false), some (cO [.int .i64 k, .int .i64 (-1), .int .i64 since, .int .u8 0, .int .i64 0] 1 false)])) := by
  have hnn : ∀ a, (notNil (.pointer (some a)) = true) = True := fun a => eq_true rfl
  refine Fc.introX fn14 (by simp) (fun _ => grow_hq (by simp) (by rfl)) ?_; simp only [argF]
  refine ITri.seq ?_
  refine ITri.reg pok ?_; simp -implicitDefEqProofs (disch := first | decide | exact of_eq_true (eq_true rfl) | omega | assumption) only [ ↓vcD, vcE, ↓vcG, vcF, evs, evP, evB, intsOf, fillC, Value.cells, pt, Value.oneCell', reduceIte, reduceCtorEq, Nat.reduceEqDiff, Nat.reduceAdd, Nat.reduceMul, Nat.reduceLT, Nat.reduceBEq, Nat.reduceLeDiff, Nat.reduceSub] -- r0
  refine ITri.seq ?_
  refine ITri.reg pok ?_; simp -implicitDefEqProofs (disch := first | decide | exact of_eq_true (eq_true rfl) | omega | assumption) only [ ↓vcD, vcE, ↓vcG, vcF, evs, evP, evB, intsOf, fillC, Value.cells, pt, Value.oneCell', reduceIte, reduceCtorEq, Nat.reduceEqDiff, Nat.reduceAdd, Nat.reduceMul, Nat.reduceLT, Nat.reduceBEq, Nat.reduceLeDiff, Nat.reduceSub] -- r1
  refine ⟨_, _, lot_f (i := 0) (q := 11) (by simp) rfl rfl rfl (by omega) (by omega) rfl, ?_⟩
  try simp -implicitDefEqProofs (disch := first | decide | exact of_eq_true (eq_true rfl) | omega | assumption) only [ ↓vcD, vcE, ↓vcG, vcF, evs, evP, evB, intsOf, fillC, Value.cells, pt, Value.oneCell', reduceIte, reduceCtorEq, Nat.reduceEqDiff, Nat.reduceAdd, Nat.reduceMul, Nat.reduceLT, Nat.reduceBEq, Nat.reduceLeDiff, Nat.reduceSub]
  refine ITri.seq ?_
  refine ITri.seq ?_
  refine ITri.reg pok ?_; simp -implicitDefEqProofs (disch := first | decide | exact of_eq_true (eq_true rfl) | omega | assumption) only [ ↓vcD, vcE, ↓vcG, vcF, evs, evP, evB, intsOf, fillC, Value.cells, pt, Value.oneCell', reduceIte, reduceCtorEq, Nat.reduceEqDiff, Nat.reduceAdd, Nat.reduceMul, Nat.reduceLT, Nat.reduceBEq, Nat.reduceLeDiff, Nat.reduceSub] -- r2
  refine ITri.cond (v := false) rfl (fun h => by cases h) (fun _ => ?_); refine ITri.skip ?_; simp only [SeqQ_normal, BlkQ_normal]
  refine ITri.seq ?_
  refine ITri.draw pok ?_; simp -implicitDefEqProofs (disch := first | decide | exact of_eq_true (eq_true rfl) | omega | assumption) only [hnn,  ↓vcD, vcE, ↓vcG, vcF, evs, evP, evB, intsOf, fillC, Value.cells, pt, Value.oneCell', reduceIte, reduceCtorEq, Nat.reduceEqDiff, Nat.reduceAdd, Nat.reduceMul, Nat.reduceLT, Nat.reduceBEq, Nat.reduceLeDiff, Nat.reduceSub] -- r4
  refine ITri.seq ?_
  refine ITri.seq ?_
  refine ITri.reg pok ?_; simp -implicitDefEqProofs (disch := first | decide | exact of_eq_true (eq_true rfl) | omega | assumption) only [hnn,  ↓vcD, vcE, ↓vcG, vcF, evs, evP, evB, intsOf, fillC, Value.cells, pt, Value.oneCell', reduceIte, reduceCtorEq, Nat.reduceEqDiff, Nat.reduceAdd, Nat.reduceMul, Nat.reduceLT, Nat.reduceBEq, Nat.reduceLeDiff, Nat.reduceSub] -- r5
  refine gen_pnln rfl (by kernel_rfl) ?_
  try simp -implicitDefEqProofs (disch := first | decide | exact of_eq_true (eq_true rfl) | omega | assumption) only [ ↓vcD, vcE, ↓vcG, vcF, evs, evP, evB, intsOf, fillC, Value.cells, pt, Value.oneCell', reduceIte, reduceCtorEq, Nat.reduceEqDiff, Nat.reduceAdd, Nat.reduceMul, Nat.reduceLT, Nat.reduceBEq, Nat.reduceLeDiff, Nat.reduceSub]
  refine ITri.cut (fun i : Nat => [(4, pt 17), (8, pt 18)]) (fun _ => []) (fun i => Hp 3 (wM A B C D n m rc rt rcp life now W run k (.pointer none) since b [some (cO [.int .i64 0, .int .i64 0, .int .i64 0, .int .u8 0, .int .i64 0] 1 false), some (cO [.int .i64 k, .int .i64 (-1), .int .i64 since, .int .u8 0, .int .i64 0] 1 false)])) (fun _ => True) ?_ (fun i hi => ?_)
  · refine ITri.cond (v := false) rfl (fun h => by cases h) (fun _ => ?_)
    refine ITri.skip ?_
    refine CutQ.mk 0 trivial (Wk.sub ⟨rfl, rfl, trivial⟩)
  refine ITri.seq ?_
  refine ITri.reg pok ?_; simp -implicitDefEqProofs (disch := first | decide | exact of_eq_true (eq_true rfl) | omega | assumption) only [ ↓vcD, vcE, ↓vcG, vcF, evs, evP, evB, intsOf, fillC, Value.cells, pt, Value.oneCell', reduceIte, reduceCtorEq, Nat.reduceEqDiff, Nat.reduceAdd, Nat.reduceMul, Nat.reduceLT, Nat.reduceBEq, Nat.reduceLeDiff, Nat.reduceSub] -- r7
  refine ITri.ret ?_; exact EndX.mk (vs := [loR k (-1) since 0 0, .int .i64 0]) (by simp) (resF_agg 5 rfl (by kernel_rfl) (by simp -implicitDefEqProofs (disch := first | decide | exact of_eq_true (eq_true rfl) | omega | assumption) only [↓vcD, vcE, ↓vcG, vcF, evs, evP, evB, intsOf, fillC, Value.cells, pt, Value.oneCell', reduceIte, reduceCtorEq, Nat.reduceEqDiff, Nat.reduceAdd, Nat.reduceMul, Nat.reduceLT, Nat.reduceBEq, Nat.reduceLeDiff, Nat.reduceSub]) (resF_tmp rfl resF_nil)) (by rfl) (by rfl)
theorem tick_x {t : Int} (hrt : rt.length = m) (hm : m ≤ 12) (hk : k < m) (hall : ∀ i, i < m → (nth rt i).2 = 1000000) (ht : 0 ≤ t ∧ t ≤ 1000) :
    Fc Try.prog 23 [pt 5, .int .i64 5] (Hp 3 (wM A B C D n m rc rt rcp life t W (pt 23) k (pt 10) since b (stT r t w))) (.int .i64 0)
      (Hp 3 (wM A B C D n m rc rt rcp life (t + 5) W (.pointer none) (k + 1 : Nat) (.pointer none) (t + 5) b (stT r t w))) := by
  have hnn : ∀ a, (notNil (.pointer (some a)) = true) = True := fun a => eq_true rfl
  have hin : inT 5 1 1000000 = true := by decide
  have hle : t + 5 ≤ t + 5 := Int.le_refl _
  have hgt : ¬ (t + 5 > 100000000) := by omega
  have hss : ¬ (t + 5 - (t + 5) > 1000000) := by omega
  have hs0 : t + 5 - (t + 5) = 0 := by omega
  refine Fc.introX fn23 (by simp) (fun _ => grow_hq (by simp) (by rfl)) ?_; simp only [argF]
  refine ITri.seq ?_
  refine ITri.reg pok ?_; simp -implicitDefEqProofs (disch := first | decide | exact of_eq_true (eq_true rfl) | omega | assumption) only [ ↓vcD, vcE, ↓vcG, vcF, evs, evP, evB, intsOf, fillC, Value.cells, pt, Value.oneCell', reduceIte, reduceCtorEq, Nat.reduceEqDiff, Nat.reduceAdd, Nat.reduceMul, Nat.reduceLT, Nat.reduceBEq, Nat.reduceLeDiff, Nat.reduceSub] -- r0
  refine ITri.seq ?_
  refine ITri.block ?_ -- 0
  refine ITri.seq ?_
  refine ITri.reg pok ?_; simp -implicitDefEqProofs (disch := first | decide | exact of_eq_true (eq_true rfl) | omega | assumption) only [ ↓vcD, vcE, ↓vcG, vcF, evs, evP, evB, intsOf, fillC, Value.cells, pt, Value.oneCell', reduceIte, reduceCtorEq, Nat.reduceEqDiff, Nat.reduceAdd, Nat.reduceMul, Nat.reduceLT, Nat.reduceBEq, Nat.reduceLeDiff, Nat.reduceSub] -- r1
  refine gen_peq (by kernel_rfl) rfl ?_
  try simp -implicitDefEqProofs (disch := first | decide | exact of_eq_true (eq_true rfl) | omega | assumption) only [ ↓vcD, vcE, ↓vcG, vcF, evs, evP, evB, intsOf, fillC, Value.cells, pt, Value.oneCell', reduceIte, reduceCtorEq, Nat.reduceEqDiff, Nat.reduceAdd, Nat.reduceMul, Nat.reduceLT, Nat.reduceBEq, Nat.reduceLeDiff, Nat.reduceSub]
  refine ITri.cond (v := false) rfl (fun h => by cases h) (fun _ => ?_)
  refine ITri.seq ?_
  refine ITri.reg pok ?_; simp -implicitDefEqProofs (disch := first | decide | exact of_eq_true (eq_true rfl) | omega | assumption) only [ ↓vcD, vcE, ↓vcG, vcF, evs, evP, evB, intsOf, fillC, Value.cells, pt, Value.oneCell', reduceIte, reduceCtorEq, Nat.reduceEqDiff, Nat.reduceAdd, Nat.reduceMul, Nat.reduceLT, Nat.reduceBEq, Nat.reduceLeDiff, Nat.reduceSub] -- r3
  refine ⟨_, _, in_f _ _ _ (sees0 rfl (of_decide_eq_true rfl)), ?_⟩
  simp -implicitDefEqProofs (disch := first | decide | exact of_eq_true (eq_true rfl) | omega | assumption) only [hin, Bool.not_true, hnn, hgt, decide_false,  ↓vcD, vcE, ↓vcG, vcF, evs, evP, evB, intsOf, fillC, Value.cells, pt, Value.oneCell', reduceIte, reduceCtorEq, Nat.reduceEqDiff, Nat.reduceAdd, Nat.reduceMul, Nat.reduceLT, Nat.reduceBEq, Nat.reduceLeDiff, Nat.reduceSub]
  refine ITri.cond (v := false) rfl (fun h => by cases h) (fun _ => ?_); refine ITri.skip ?_; simp only [SeqQ_normal, BlkQ_normal]
  refine ITri.seq ?_
  refine ITri.reg pok ?_; simp -implicitDefEqProofs (disch := first | decide | exact of_eq_true (eq_true rfl) | omega | assumption) only [hnn,  ↓vcD, vcE, ↓vcG, vcF, evs, evP, evB, intsOf, fillC, Value.cells, pt, Value.oneCell', reduceIte, reduceCtorEq, Nat.reduceEqDiff, Nat.reduceAdd, Nat.reduceMul, Nat.reduceLT, Nat.reduceBEq, Nat.reduceLeDiff, Nat.reduceSub] -- r5
  refine ITri.seq ?_
  refine ITri.seq ?_
  refine ITri.reg pok ?_; simp -implicitDefEqProofs (disch := first | decide | exact of_eq_true (eq_true rfl) | omega | assumption) only [hnn,  ↓vcD, vcE, ↓vcG, vcF, evs, evP, evB, intsOf, fillC, Value.cells, pt, Value.oneCell', reduceIte, reduceCtorEq, Nat.reduceEqDiff, Nat.reduceAdd, Nat.reduceMul, Nat.reduceLT, Nat.reduceBEq, Nat.reduceLeDiff, Nat.reduceSub] -- r6
  refine ITri.block ?_ -- 1
  refine ITri.loop (fun p : Nat × Value × Nat × Value × Int => [(0, pt 5), (36, slO 8 1 openB), (37, .int .i64 1), (38, .int .i64 p.1)]) (fun _ => []) (fun p => Hp 3 (wM A B C D n m rc rt rcp life (t + 5) W p.2.1 p.2.2.1 p.2.2.2.1 p.2.2.2.2 b (stT r t w))) (fun p => p = (0, pt 23, k, pt 10, since) ∨ p = (1, .pointer none, k + 1, .pointer none, t + 5)) (fun p => 1 - p.1) (0, pt 23, k, pt 10, since) (.inl rfl) (Wk.sub ⟨rfl, rfl, rfl, rfl, trivial⟩) (fun p hp => ?_)
  refine ITri.seq ?_
  refine ITri.reg pok ?_; simp -implicitDefEqProofs (disch := first | decide | exact of_eq_true (eq_true rfl) | omega | assumption) only [ ↓vcD, vcE, ↓vcG, vcF, evs, evP, evB, intsOf, fillC, Value.cells, pt, Value.oneCell', reduceIte, reduceCtorEq, Nat.reduceEqDiff, Nat.reduceAdd, Nat.reduceMul, Nat.reduceLT, Nat.reduceBEq, Nat.reduceLeDiff, Nat.reduceSub] -- r7
  refine ITri.seq ?_
  rcases hp with rfl | rfl
  · refine ITri.cond (v := true) rfl (fun _ => ?_) (fun h => by cases h)
    refine ITri.skip ?_; simp only [SeqQ_normal, BlkQ_normal]
    refine ITri.seq ?_
    refine ITri.block ?_ -- 2
    refine ITri.seq ?_
    refine ITri.reg pok ?_; simp -implicitDefEqProofs (disch := first | decide | exact of_eq_true (eq_true rfl) | omega | assumption) only [ ↓vcD, vcE, ↓vcG, vcF, evs, evP, evB, intsOf, fillC, Value.cells, pt, Value.oneCell', reduceIte, reduceCtorEq, Nat.reduceEqDiff, Nat.reduceAdd, Nat.reduceMul, Nat.reduceLT, Nat.reduceBEq, Nat.reduceLeDiff, Nat.reduceSub] -- r8
    refine ITri.seq ?_
    refine ITri.draw pok ?_; simp -implicitDefEqProofs (disch := first | decide | exact of_eq_true (eq_true rfl) | omega | assumption) only [hnn, hle, decide_true,  ↓vcD, vcE, ↓vcG, vcF, evs, evP, evB, intsOf, fillC, Value.cells, pt, Value.oneCell', reduceIte, reduceCtorEq, Nat.reduceEqDiff, Nat.reduceAdd, Nat.reduceMul, Nat.reduceLT, Nat.reduceBEq, Nat.reduceLeDiff, Nat.reduceSub] -- r9
    refine gen_pne (by kernel_rfl) rfl ?_
    simp -implicitDefEqProofs (disch := first | decide | exact of_eq_true (eq_true rfl) | omega | assumption) only [hnn, hle, decide_true,  ↓vcD, vcE, ↓vcG, vcF, evs, evP, evB, intsOf, fillC, Value.cells, pt, Value.oneCell', reduceIte, reduceCtorEq, Nat.reduceEqDiff, Nat.reduceAdd, Nat.reduceMul, Nat.reduceLT, Nat.reduceBEq, Nat.reduceLeDiff, Nat.reduceSub]
    refine ITri.cut (fun i : Nat => [(0, pt 5), (36, slO 8 1 openB), (37, .int .i64 1), (38, .int .i64 0)]) (fun _ => []) (fun i => Hp 3 (wM A B C D n m rc rt rcp life (t + 5) W (.pointer none) (k + 1 : Nat) (.pointer none) (t + 5) b (stT r t w))) (fun _ => True) ?_ (fun i hi => ?_)
    · refine ITri.cond (v := true) rfl (fun _ => ?_) (fun h => by cases h)
      refine ITri.reg pok ?_; simp -implicitDefEqProofs (disch := first | decide | exact of_eq_true (eq_true rfl) | omega | assumption) only [hnn,  ↓vcD, vcE, ↓vcG, vcF, evs, evP, evB, intsOf, fillC, Value.cells, pt, Value.oneCell', reduceIte, reduceCtorEq, Nat.reduceEqDiff, Nat.reduceAdd, Nat.reduceMul, Nat.reduceLT, Nat.reduceBEq, Nat.reduceLeDiff, Nat.reduceSub] -- r10
      refine ⟨_, _, end_x (by omega), ?_⟩
      try simp -implicitDefEqProofs (disch := first | decide | exact of_eq_true (eq_true rfl) | omega | assumption) only [ ↓vcD, vcE, ↓vcG, vcF, evs, evP, evB, intsOf, fillC, Value.cells, pt, Value.oneCell', reduceIte, reduceCtorEq, Nat.reduceEqDiff, Nat.reduceAdd, Nat.reduceMul, Nat.reduceLT, Nat.reduceBEq, Nat.reduceLeDiff, Nat.reduceSub]
      refine CutQ.mk 0 trivial (Wk.sub ⟨rfl, rfl, rfl, rfl, trivial⟩)
    refine ITri.reg pok ?_; simp -implicitDefEqProofs (disch := first | decide | exact of_eq_true (eq_true rfl) | omega | assumption) only [ ↓vcD, vcE, ↓vcG, vcF, evs, evP, evB, intsOf, fillC, Value.cells, pt, Value.oneCell', reduceIte, reduceCtorEq, Nat.reduceEqDiff, Nat.reduceAdd, Nat.reduceMul, Nat.reduceLT, Nat.reduceBEq, Nat.reduceLeDiff, Nat.reduceSub] -- r11
    exact LoopQ.next (1, .pointer none, k + 1, .pointer none, t + 5) (.inr rfl) (by simp) (Wk.sub ⟨rfl, rfl, rfl, rfl, trivial⟩)
  refine ITri.cond (v := false) rfl (fun h => by cases h) (fun _ => ?_)
  refine ITri.exit ?_; try simp -implicitDefEqProofs (disch := first | decide | exact of_eq_true (eq_true rfl) | omega | assumption) only [ ↓vcD, vcE, ↓vcG, vcF, evs, evP, evB, intsOf, fillC, Value.cells, pt, Value.oneCell', reduceIte, reduceCtorEq, Nat.reduceEqDiff, Nat.reduceAdd, Nat.reduceMul, Nat.reduceLT, Nat.reduceBEq, Nat.reduceLeDiff, Nat.reduceSub]
  refine ITri.seq ?_
  refine ITri.seq ?_
  refine ITri.reg pok ?_; simp -implicitDefEqProofs (disch := first | decide | exact of_eq_true (eq_true rfl) | omega | assumption) only [hnn,  ↓vcD, vcE, ↓vcG, vcF, evs, evP, evB, intsOf, fillC, Value.cells, pt, Value.oneCell', reduceIte, reduceCtorEq, Nat.reduceEqDiff, Nat.reduceAdd, Nat.reduceMul, Nat.reduceLT, Nat.reduceBEq, Nat.reduceLeDiff, Nat.reduceSub] -- r12
  refine ITri.block ?_ -- 3
  refine ITri.loop (fun p : Nat => [(0, pt 5), (74, slO 9 1 openB), (75, .int .i64 1), (76, .int .i64 p)]) (fun _ => []) (fun p => Hp 3 (wM A B C D n m rc rt rcp life (t + 5) W (.pointer none) (k + 1 : Nat) (.pointer none) (t + 5) b (stT r t w))) (fun p => p ≤ 1) (fun p => 1 - p) 0 (by omega) (Wk.sub ⟨rfl, rfl, rfl, rfl, trivial⟩) (fun p hp => ?_)
  refine ITri.seq ?_
  refine ITri.reg pok ?_; simp -implicitDefEqProofs (disch := first | decide | exact of_eq_true (eq_true rfl) | omega | assumption) only [ ↓vcD, vcE, ↓vcG, vcF, evs, evP, evB, intsOf, fillC, Value.cells, pt, Value.oneCell', reduceIte, reduceCtorEq, Nat.reduceEqDiff, Nat.reduceAdd, Nat.reduceMul, Nat.reduceLT, Nat.reduceBEq, Nat.reduceLeDiff, Nat.reduceSub] -- r13
  refine ITri.seq ?_
  refine ITri.condD (by rfl) (fun h7 => ?_) (fun h7 => ?_) -- %77
  · obtain rfl : p = 0 := by omega
    refine ITri.skip ?_; simp only [SeqQ_normal, BlkQ_normal]
    refine ITri.seq ?_
    refine ITri.block ?_ -- 4
    refine ITri.seq ?_
    refine ITri.reg pok ?_; simp -implicitDefEqProofs (disch := first | decide | exact of_eq_true (eq_true rfl) | omega | assumption) only [ ↓vcD, vcE, ↓vcG, vcF, evs, evP, evB, intsOf, fillC, Value.cells, pt, Value.oneCell', reduceIte, reduceCtorEq, Nat.reduceEqDiff, Nat.reduceAdd, Nat.reduceMul, Nat.reduceLT, Nat.reduceBEq, Nat.reduceLeDiff, Nat.reduceSub] -- r14
    refine ITri.seq ?_
    by_cases hkm : k + 1 = m
    · have hd : decide (((k + 1 : Nat) : Int) = (m : Int)) = true := by simp; omega
      refine ITri.draw pok ?_; simp -implicitDefEqProofs (disch := first | decide | exact of_eq_true (eq_true rfl) | omega | assumption) only [hnn,  ↓vcD, vcE, ↓vcG, vcF, evs, evP, evB, intsOf, fillC, Value.cells, pt, Value.oneCell', reduceIte, reduceCtorEq, Nat.reduceEqDiff, Nat.reduceAdd, Nat.reduceMul, Nat.reduceLT, Nat.reduceBEq, Nat.reduceLeDiff, Nat.reduceSub] -- r15
      refine gen_pnil rfl (by kernel_rfl) ?_
      try simp -implicitDefEqProofs (disch := first | decide | exact of_eq_true (eq_true rfl) | omega | assumption) only [ ↓vcD, vcE, ↓vcG, vcF, evs, evP, evB, intsOf, fillC, Value.cells, pt, Value.oneCell', reduceIte, reduceCtorEq, Nat.reduceEqDiff, Nat.reduceAdd, Nat.reduceMul, Nat.reduceLT, Nat.reduceBEq, Nat.reduceLeDiff, Nat.reduceSub]
      refine ⟨_, _, done_f rfl rfl, ?_⟩
      simp -implicitDefEqProofs (disch := first | decide | exact of_eq_true (eq_true rfl) | omega | assumption) only [hd, Bool.not_true,  ↓vcD, vcE, ↓vcG, vcF, evs, evP, evB, intsOf, fillC, Value.cells, pt, Value.oneCell', reduceIte, reduceCtorEq, Nat.reduceEqDiff, Nat.reduceAdd, Nat.reduceMul, Nat.reduceLT, Nat.reduceBEq, Nat.reduceLeDiff, Nat.reduceSub]
      refine ITri.cut (fun i : Nat => [(0, pt 5), (74, slO 9 1 openB), (75, .int .i64 1), (76, .int .i64 0)]) (fun _ => []) (fun i => Hp 3 (wM A B C D n m rc rt rcp life (t + 5) W (.pointer none) (k + 1 : Nat) (.pointer none) (t + 5) b (stT r t w))) (fun _ => True) ?_ (fun i hi => ?_)
      · refine ITri.cond (v := false) rfl (fun h => by cases h) (fun _ => ?_)
        refine ITri.skip ?_
        refine CutQ.mk 0 trivial (Wk.sub ⟨rfl, rfl, rfl, rfl, trivial⟩)
      refine ITri.reg pok ?_; simp -implicitDefEqProofs (disch := first | decide | exact of_eq_true (eq_true rfl) | omega | assumption) only [ ↓vcD, vcE, ↓vcG, vcF, evs, evP, evB, intsOf, fillC, Value.cells, pt, Value.oneCell', reduceIte, reduceCtorEq, Nat.reduceEqDiff, Nat.reduceAdd, Nat.reduceMul, Nat.reduceLT, Nat.reduceBEq, Nat.reduceLeDiff, Nat.reduceSub] -- r17
      exact LoopQ.next 1 (by omega) (by omega) (Wk.sub ⟨rfl, rfl, rfl, rfl, trivial⟩)
    · have hd : decide (((k + 1 : Nat) : Int) = (m : Int)) = false := by simp; omega
      have hw := hall (k + 1) (by omega)
      have hr1 : (rows eR rt)[(k + 1) * 2 + 1]? = some (.int .i64 1000000) := by
        rw [rows_get (f := eR) (by omega) (by omega), ← hw]
        rfl
      refine ITri.draw pok ?_; simp -implicitDefEqProofs (disch := first | decide | exact of_eq_true (eq_true rfl) | omega | assumption) only [hnn,  ↓vcD, vcE, ↓vcG, vcF, evs, evP, evB, intsOf, fillC, Value.cells, pt, Value.oneCell', reduceIte, reduceCtorEq, Nat.reduceEqDiff, Nat.reduceAdd, Nat.reduceMul, Nat.reduceLT, Nat.reduceBEq, Nat.reduceLeDiff, Nat.reduceSub] -- r15
      refine gen_pnil rfl (by kernel_rfl) ?_
      try simp -implicitDefEqProofs (disch := first | decide | exact of_eq_true (eq_true rfl) | omega | assumption) only [ ↓vcD, vcE, ↓vcG, vcF, evs, evP, evB, intsOf, fillC, Value.cells, pt, Value.oneCell', reduceIte, reduceCtorEq, Nat.reduceEqDiff, Nat.reduceAdd, Nat.reduceMul, Nat.reduceLT, Nat.reduceBEq, Nat.reduceLeDiff, Nat.reduceSub]
      refine ⟨_, _, done_f rfl rfl, ?_⟩
      simp -implicitDefEqProofs (disch := first | decide | exact of_eq_true (eq_true rfl) | omega | assumption) only [hd, Bool.not_false, hnn, hr1, hs0, Int.toNat_natCast,  ↓vcD, vcE, ↓vcG, vcF, evs, evP, evB, intsOf, fillC, Value.cells, pt, Value.oneCell', reduceIte, reduceCtorEq, Nat.reduceEqDiff, Nat.reduceAdd, Nat.reduceMul, Nat.reduceLT, Nat.reduceBEq, Nat.reduceLeDiff, Nat.reduceSub]
      refine ITri.cut (fun i : Nat => [(0, pt 5), (74, slO 9 1 openB), (75, .int .i64 1), (76, .int .i64 0)]) (fun _ => []) (fun i => Hp 3 (wM A B C D n m rc rt rcp life (t + 5) W (.pointer none) (k + 1 : Nat) (.pointer none) (t + 5) b (stT r t w))) (fun _ => True) ?_ (fun i hi => ?_)
      · refine ITri.cond (v := false) rfl (fun h => by cases h) (fun _ => ?_)
        refine ITri.skip ?_
        refine CutQ.mk 0 trivial (Wk.sub ⟨rfl, rfl, rfl, rfl, trivial⟩)
      refine ITri.reg pok ?_; simp -implicitDefEqProofs (disch := first | decide | exact of_eq_true (eq_true rfl) | omega | assumption) only [ ↓vcD, vcE, ↓vcG, vcF, evs, evP, evB, intsOf, fillC, Value.cells, pt, Value.oneCell', reduceIte, reduceCtorEq, Nat.reduceEqDiff, Nat.reduceAdd, Nat.reduceMul, Nat.reduceLT, Nat.reduceBEq, Nat.reduceLeDiff, Nat.reduceSub] -- r17
      exact LoopQ.next 1 (by omega) (by omega) (Wk.sub ⟨rfl, rfl, rfl, rfl, trivial⟩)
  refine ITri.exit ?_; try simp -implicitDefEqProofs (disch := first | decide | exact of_eq_true (eq_true rfl) | omega | assumption) only [ ↓vcD, vcE, ↓vcG, vcF, evs, evP, evB, intsOf, fillC, Value.cells, pt, Value.oneCell', reduceIte, reduceCtorEq, Nat.reduceEqDiff, Nat.reduceAdd, Nat.reduceMul, Nat.reduceLT, Nat.reduceBEq, Nat.reduceLeDiff, Nat.reduceSub]
  refine ITri.seq ?_
  refine ITri.reg pok ?_; simp -implicitDefEqProofs (disch := first | decide | exact of_eq_true (eq_true rfl) | omega | assumption) only [ ↓vcD, vcE, ↓vcG, vcF, evs, evP, evB, intsOf, fillC, Value.cells, pt, Value.oneCell', reduceIte, reduceCtorEq, Nat.reduceEqDiff, Nat.reduceAdd, Nat.reduceMul, Nat.reduceLT, Nat.reduceBEq, Nat.reduceLeDiff, Nat.reduceSub] -- r18
  refine ITri.ret ?_; exact EndX.mk (by simp) (by rfl) (by rfl) (by rfl)
end
end Go.Proofs.Ythoigkgjidcklaa
