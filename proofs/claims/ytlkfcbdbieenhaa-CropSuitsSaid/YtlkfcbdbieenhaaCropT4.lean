/-
  Chapter 7, turns, by names: squares and the first setting, the checks, numbers.
-/
import Derived.Test.YtlkfcbdbieenhaaCropT3
set_option linter.unusedSimpArgs false
set_option linter.unusedVariables false
namespace Go.Proofs.Ytlkfcbdbieenhaa
open Go.RowKit Go.Vm
set_option maxRecDepth 100000
/- boule/crop.of · slots 46 · names 0:t 1:tolerance 2:t 3:tolerance · results [4] -/
def ir87_r0 : IC := .reg [⟨some 2, none, false, .box (.t 0)⟩,
  ⟨some 4, none, false, .alloc [(.int .i64 0), (.int .i64 0), (.int .i64 0), (.int .i64 0)]⟩] (some [1, 2, 4])
def ir87_r1 : IC := .reg [⟨some 5, none, false, .mv (.t 1)⟩,
  ⟨some 6, none, false, .neg (.t 5)⟩,
  ⟨some 7, none, false, .fad 0 (.t 2)⟩,
  ⟨some 8, none, false, .fad 0 (.t 7)⟩,
  ⟨some 9, none, false, .ldc (.t 8)⟩,
  ⟨some 10, none, false, .ar .sub (.t 6) (.t 9)⟩,
  ⟨some 11, none, false, .fad 2 (.t 2)⟩,
  ⟨some 12, none, false, .fad 0 (.t 11)⟩,
  ⟨some 13, none, false, .ldc (.t 12)⟩,
  ⟨some 14, none, false, .ar .sub (.t 10) (.t 13)⟩,
  ⟨some 15, none, false, .mv (.t 1)⟩,
  ⟨some 16, none, false, .fad 0 (.t 2)⟩,
  ⟨some 17, none, false, .fad 1 (.t 16)⟩,
  ⟨some 18, none, false, .ldc (.t 17)⟩,
  ⟨some 19, none, false, .ar .sub (.t 15) (.t 18)⟩,
  ⟨some 20, none, false, .fad 2 (.t 2)⟩,
  ⟨some 21, none, false, .fad 1 (.t 20)⟩,
  ⟨some 22, none, false, .ldc (.t 21)⟩,
  ⟨some 23, none, false, .ar .sub (.t 19) (.t 22)⟩,
  ⟨some 24, none, false, .bld [(.int .i64 0), (.int .i64 0)] [(0, 1, (.t 14)), (1, 1, (.t 23))]⟩,
  ⟨some 25, none, false, .mv (.t 1)⟩,
  ⟨some 26, none, false, .neg (.t 25)⟩,
  ⟨some 27, none, false, .fad 0 (.t 2)⟩,
  ⟨some 28, none, false, .fad 0 (.t 27)⟩,
  ⟨some 29, none, false, .ldc (.t 28)⟩,
  ⟨some 30, none, false, .ar .sub (.t 26) (.t 29)⟩,
  ⟨some 31, none, false, .fad 2 (.t 2)⟩,
  ⟨some 32, none, false, .fad 1 (.t 31)⟩,
  ⟨some 33, none, false, .ldc (.t 32)⟩,
  ⟨some 34, none, false, .ar .add (.t 30) (.t 33)⟩,
  ⟨some 35, none, false, .mv (.t 1)⟩,
  ⟨some 36, none, false, .fad 0 (.t 2)⟩,
  ⟨some 37, none, false, .fad 1 (.t 36)⟩,
  ⟨some 38, none, false, .ldc (.t 37)⟩,
  ⟨some 39, none, false, .ar .sub (.t 35) (.t 38)⟩,
  ⟨some 40, none, false, .fad 2 (.t 2)⟩,
  ⟨some 41, none, false, .fad 0 (.t 40)⟩,
  ⟨some 42, none, false, .ldc (.t 41)⟩,
  ⟨some 43, none, false, .ar .add (.t 39) (.t 42)⟩,
  ⟨some 44, none, false, .bld [(.int .i64 0), (.int .i64 0)] [(0, 1, (.t 34)), (1, 1, (.t 43))]⟩,
  ⟨some 45, none, false, .bld [(.int .i64 0), (.int .i64 0), (.int .i64 0), (.int .i64 0)] [(0, 2, (.t 24)), (2, 2, (.t 44))]⟩,
  ⟨none, none, false, .st 4 (.t 4) (.t 45)⟩] (some [4])
def ir87_1 : IC := .seq ir87_r1 .ret
def ir87_2 : IC := .seq ir87_r0 ir87_1
def ir87 : IC := ir87_2
theorem fn87 : FnIs Try.prog 87 ir87 46 [.cell 4 148] := ⟨Try.f87, Try.f87.body.getD .skip, Try.func87, by kernel_rfl, by kernel_rfl, by kernel_rfl, by kernel_rfl⟩
/- (boule/crop.square).meet$1 · slots 16 · names 0:r 1:s 2:r 3:s · results [4] -/
def ir96_r0 : IC := .reg [⟨some 2, none, false, .box (.t 0)⟩,
  ⟨some 3, none, false, .box (.t 1)⟩,
  ⟨some 4, none, false, .alloc [(.int .i64 0), (.int .i64 0)]⟩] (some [2, 3, 4])
def ir96_r1 : IC := .reg [⟨some 5, none, false, .fad 0 (.t 2)⟩,
  ⟨some 6, none, false, .ldc (.t 5)⟩,
  ⟨some 7, none, false, .fad 0 (.t 3)⟩,
  ⟨some 8, none, false, .ldc (.t 7)⟩,
  ⟨some 9, none, false, .mm false [(.t 6), (.t 8)]⟩,
  ⟨some 10, none, false, .fad 1 (.t 2)⟩,
  ⟨some 11, none, false, .ldc (.t 10)⟩,
  ⟨some 12, none, false, .fad 1 (.t 3)⟩,
  ⟨some 13, none, false, .ldc (.t 12)⟩,
  ⟨some 14, none, false, .mm true [(.t 11), (.t 13)]⟩,
  ⟨some 15, none, false, .bld [(.int .i64 0), (.int .i64 0)] [(0, 1, (.t 9)), (1, 1, (.t 14))]⟩,
  ⟨none, none, false, .st 2 (.t 4) (.t 15)⟩] (some [4])
def ir96_1 : IC := .seq ir96_r1 .ret
def ir96_2 : IC := .seq ir96_r0 ir96_1
def ir96 : IC := ir96_2
theorem fn96 : FnIs Try.prog 96 ir96 16 [.cell 4 38] := ⟨Try.f96, Try.f96.body.getD .skip, Try.func96, by kernel_rfl, by kernel_rfl, by kernel_rfl, by kernel_rfl⟩
/- (boule/crop.square).meet · slots 19 · names 0:a 1:b 2:a 3:b 5:common · results [4] -/
def ir88_r0 : IC := .reg [⟨some 2, none, false, .box (.t 0)⟩,
  ⟨some 3, none, false, .box (.t 1)⟩,
  ⟨some 4, none, false, .alloc [(.int .i64 0), (.int .i64 0), (.int .i64 0), (.int .i64 0)]⟩] (some [2, 3, 4])
def ir88_r1 : IC := .reg [⟨some 5, none, false, .mv (.f 96)⟩] (some [2, 3, 4, 5])
def ir88_r2 : IC := .draw [(⟨some 6, none, false, .mv (.t 5)⟩, false, 0, 0),
  (⟨some 7, none, false, .fad 0 (.t 2)⟩, false, 0, 0),
  (⟨some 8, none, false, .lda 2 (.t 7)⟩, false, 2, 1),
  (⟨some 9, none, false, .fad 0 (.t 3)⟩, false, 0, 0),
  (⟨some 10, none, false, .lda 2 (.t 9)⟩, false, 8, 3),
  (⟨some 11, none, false, .call (.t 6) [(.t 8), (.t 10)]⟩, false, 31, 1),
  (⟨some 12, none, false, .mv (.t 5)⟩, false, 0, 0),
  (⟨some 13, none, false, .fad 2 (.t 2)⟩, false, 0, 0),
  (⟨some 14, none, false, .lda 2 (.t 13)⟩, false, 128, 32),
  (⟨some 15, none, false, .fad 2 (.t 3)⟩, false, 0, 0),
  (⟨some 16, none, false, .lda 2 (.t 15)⟩, false, 512, 160),
  (⟨some 17, none, false, .call (.t 12) [(.t 14), (.t 16)]⟩, true, 2047, 1),
  (⟨some 18, none, false, .bld [(.int .i64 0), (.int .i64 0), (.int .i64 0), (.int .i64 0)] [(0, 2, (.t 11)), (2, 2, (.t 17))]⟩, false, 4095, 0),
  (⟨none, none, false, .st 4 (.t 4) (.t 18)⟩, true, 8191, 1)] (some [4])
def ir88_1 : IC := .seq ir88_r2 .ret
def ir88_2 : IC := .seq ir88_r1 ir88_1
def ir88_3 : IC := .seq ir88_r0 ir88_2
def ir88 : IC := ir88_3
theorem fn88 : FnIs Try.prog 88 ir88 19 [.cell 4 148] := ⟨Try.f88, Try.f88.body.getD .skip, Try.func88, by kernel_rfl, by kernel_rfl, by kernel_rfl, by kernel_rfl⟩
/- (boule/crop.square).first · slots 58 · names 0:a 1:a 4:u 5:v · results [2, 3] -/
def ir89_r0 : IC := .reg [⟨some 1, none, false, .box (.t 0)⟩,
  ⟨some 2, none, false, .alloc [(.int .i64 0), (.int .i64 0)]⟩,
  ⟨some 3, none, false, .mv (.k (.bool false))⟩] (some [1, 2])
def ir89_r1 : IC := .draw [(⟨some 6, none, false, .fad 0 (.t 1)⟩, false, 0, 0),
  (⟨some 7, none, false, .fad 0 (.t 6)⟩, false, 1, 0),
  (⟨some 8, none, false, .ldc (.t 7)⟩, false, 3, 1),
  (⟨some 9, none, false, .fad 2 (.t 1)⟩, false, 0, 0),
  (⟨some 10, none, false, .fad 0 (.t 9)⟩, false, 8, 0),
  (⟨some 11, none, false, .ldc (.t 10)⟩, false, 24, 4),
  (⟨some 4, none, false, .mv (.t 8)⟩, false, 7, 0),
  (⟨some 5, none, false, .mv (.t 11)⟩, false, 127, 0)] (some [1, 2, 4, 5])
def ir89_r3 : IC := .reg [⟨some 14, none, false, .mv (.t 4)⟩,
  ⟨some 15, none, false, .fad 0 (.t 1)⟩,
  ⟨some 16, none, false, .fad 1 (.t 15)⟩,
  ⟨some 17, none, false, .ldc (.t 16)⟩,
  ⟨some 18, none, false, .cmp .gtr (.t 14) (.t 17)⟩,
  ⟨some 19, none, false, .mv (.t 18)⟩,
  ⟨some 20, some (19, false), false, .mv (.t 5)⟩,
  ⟨some 21, some (19, false), false, .fad 2 (.t 1)⟩,
  ⟨some 22, some (19, false), false, .fad 1 (.t 21)⟩,
  ⟨some 23, some (19, false), false, .ldc (.t 22)⟩,
  ⟨some 24, some (19, false), false, .cmp .gtr (.t 20) (.t 23)⟩,
  ⟨some 25, none, false, .pick (.t 19) (.k (.bool true)) (.t 24)⟩,
  ⟨some 13, none, false, .mv (.t 25)⟩] (some [1, 2, 4, 5, 13])
def ir89_r4 : IC := .reg [⟨some 26, none, false, .bld [(.int .i64 0), (.int .i64 0)] []⟩,
  ⟨none, none, false, .st 2 (.t 2) (.t 26)⟩,
  ⟨some 3, none, false, .mv (.k (.bool false))⟩] (some [2, 3])
def ir89_1 : IC := .seq ir89_r4 .ret
def ir89_r5 : IC := .reg [⟨some 28, none, false, .mv (.t 4)⟩,
  ⟨some 29, none, false, .mv (.t 5)⟩,
  ⟨some 30, none, false, .ar .add (.t 28) (.t 29)⟩,
  ⟨some 31, none, false, .div .rem (.t 30) (.k (.int .i64 2))⟩,
  ⟨some 32, none, false, .cmp .eql (.t 31) (.k (.int .i64 0))⟩,
  ⟨some 27, none, false, .mv (.t 32)⟩] (some [1, 2, 4, 5, 27])
def ir89_r6 : IC := .reg [⟨some 34, none, false, .mv (.t 5)⟩,
  ⟨some 35, none, false, .fad 2 (.t 1)⟩,
  ⟨some 36, none, false, .fad 1 (.t 35)⟩,
  ⟨some 37, none, false, .ldc (.t 36)⟩,
  ⟨some 38, none, false, .cmp .lss (.t 34) (.t 37)⟩,
  ⟨some 33, none, false, .mv (.t 38)⟩] (some [1, 2, 4, 5, 33])
def ir89_r7 : IC := .reg [⟨some 39, none, false, .mv (.t 5)⟩,
  ⟨some 40, none, false, .ar .add (.t 39) (.k (.int .i64 1))⟩,
  ⟨some 5, none, false, .mv (.t 40)⟩] (some [2, 4, 5])
def ir89_r8 : IC := .reg [⟨some 42, none, false, .mv (.t 4)⟩,
  ⟨some 43, none, false, .fad 0 (.t 1)⟩,
  ⟨some 44, none, false, .fad 1 (.t 43)⟩,
  ⟨some 45, none, false, .ldc (.t 44)⟩,
  ⟨some 46, none, false, .cmp .lss (.t 42) (.t 45)⟩,
  ⟨some 41, none, false, .mv (.t 46)⟩] (some [2, 4, 5, 41])
def ir89_r9 : IC := .reg [⟨some 47, none, false, .mv (.t 4)⟩,
  ⟨some 48, none, false, .ar .add (.t 47) (.k (.int .i64 1))⟩,
  ⟨some 4, none, false, .mv (.t 48)⟩] (some [2, 4, 5])
def ir89_r2 : IC := .reg [⟨some 12, none, false, .bld [(.int .i64 0), (.int .i64 0)] []⟩,
  ⟨none, none, false, .st 2 (.t 2) (.t 12)⟩,
  ⟨some 3, none, false, .mv (.k (.bool false))⟩] (some [2, 3])
def ir89_2 : IC := .seq ir89_r2 .ret
def ir89_3 : IC := .cond (.t 41) ir89_r9 ir89_2
def ir89_4 : IC := .seq ir89_r8 ir89_3
def ir89_5 : IC := .cond (.t 33) ir89_r7 ir89_4
def ir89_6 : IC := .seq ir89_r6 ir89_5
def ir89_7 : IC := .cond (.t 27) .skip ir89_6
def ir89_8 : IC := .seq ir89_r5 ir89_7
def ir89_9 : IC := .cond (.t 13) ir89_1 ir89_8
def ir89_10 : IC := .seq ir89_r3 ir89_9
def ir89_11 : IC := .block 0 ir89_10
def ir89_r10 : IC := .reg [⟨some 49, none, false, .mv (.t 4)⟩,
  ⟨some 50, none, false, .mv (.t 5)⟩,
  ⟨some 51, none, false, .ar .add (.t 49) (.t 50)⟩,
  ⟨some 52, none, false, .div .quo (.t 51) (.k (.int .i64 2))⟩,
  ⟨some 53, none, false, .mv (.t 4)⟩,
  ⟨some 54, none, false, .mv (.t 5)⟩,
  ⟨some 55, none, false, .ar .sub (.t 53) (.t 54)⟩,
  ⟨some 56, none, false, .div .quo (.t 55) (.k (.int .i64 2))⟩,
  ⟨some 57, none, false, .bld [(.int .i64 0), (.int .i64 0)] [(0, 1, (.t 52)), (1, 1, (.t 56))]⟩,
  ⟨none, none, false, .st 2 (.t 2) (.t 57)⟩,
  ⟨some 3, none, false, .mv (.k (.bool true))⟩] (some [2, 3])
def ir89_12 : IC := .seq ir89_r10 .ret
def ir89_13 : IC := .seq ir89_11 ir89_12
def ir89_14 : IC := .seq ir89_r1 ir89_13
def ir89_15 : IC := .seq ir89_r0 ir89_14
def ir89 : IC := ir89_15
theorem fn89 : FnIs Try.prog 89 ir89 58 [.cell 2 86, .tmp 3] := ⟨Try.f89, Try.f89.body.getD .skip, Try.func89, by kernel_rfl, by kernel_rfl, by kernel_rfl, by kernel_rfl⟩
/- boule/crop.checkTurn$1 · slots 6 · names 0:t 1:t · results [2] -/
def ir85_r0 : IC := .reg [⟨some 1, none, false, .box (.t 0)⟩,
  ⟨some 2, none, false, .mv (.k (.bool false))⟩] (some [1])
def ir85_r1 : IC := .reg [⟨some 3, none, false, .lda 4 (.t 1)⟩,
  ⟨some 4, none, false, .call (.f 67) [(.t 3)]⟩,
  ⟨some 5, none, false, .not (.t 4)⟩,
  ⟨some 2, none, false, .mv (.t 5)⟩] (some [2])
def ir85_1 : IC := .seq ir85_r1 .ret
def ir85_2 : IC := .seq ir85_r0 ir85_1
def ir85 : IC := ir85_2
theorem fn85 : FnIs Try.prog 85 ir85 6 [.tmp 2] := ⟨Try.f85, Try.f85.body.getD .skip, Try.func85, by kernel_rfl, by kernel_rfl, by kernel_rfl, by kernel_rfl⟩
/- slices.IndexFunc[[]boule/api.Tilt,boule/api.Tilt] · slots 19 · names 0:s 1:f 2:s 3:f 5:i · results [4] -/
def ir95_r0 : IC := .reg [⟨some 4, none, false, .mv (.k (.int .i64 0))⟩] (some [0, 1])
def ir95_r1 : IC := .reg [⟨some 6, none, false, .mv (.t 0)⟩,
  ⟨some 7, none, false, .len (.t 6)⟩,
  ⟨some 8, none, false, .mv (.k (.int .i64 0))⟩] (some [0, 1, 7, 8])
def ir95_r2 : IC := .reg [⟨some 9, none, false, .cmp .lss (.t 8) (.t 7)⟩] (some [0, 1, 7, 8, 9])
def ir95_1 : IC := .cond (.t 9) .skip (.exit 0)
def ir95_r3 : IC := .reg [⟨some 10, none, false, .mv (.t 8)⟩,
  ⟨some 5, none, false, .mv (.t 10)⟩] (some [0, 1, 5, 7, 8])
def ir95_r4 : IC := .reg [⟨some 11, none, false, .mv (.t 1)⟩,
  ⟨some 12, none, false, .mv (.t 0)⟩,
  ⟨some 13, none, false, .mv (.t 5)⟩,
  ⟨some 14, none, false, .iad 4 (.t 12) (.t 13)⟩,
  ⟨some 15, none, false, .lda 4 (.t 14)⟩,
  ⟨some 16, none, false, .call (.t 11) [(.t 15)]⟩] (some [0, 1, 5, 7, 8, 16])
def ir95_r5 : IC := .reg [⟨some 17, none, false, .mv (.t 5)⟩,
  ⟨some 4, none, false, .mv (.t 17)⟩] (some [4])
def ir95_2 : IC := .seq ir95_r5 .ret
def ir95_3 : IC := .cond (.t 16) ir95_2 .skip
def ir95_4 : IC := .seq ir95_r4 ir95_3
def ir95_5 : IC := .seq ir95_r3 ir95_4
def ir95_6 : IC := .block 1 ir95_5
def ir95_r6 : IC := .reg [⟨some 18, none, false, .ar .add (.t 8) (.k (.int .i64 1))⟩,
  ⟨some 8, none, false, .mv (.t 18)⟩] (some [0, 1, 7, 8])
def ir95_7 : IC := .seq ir95_6 ir95_r6
def ir95_8 : IC := .seq ir95_1 ir95_7
def ir95_9 : IC := .seq ir95_r2 ir95_8
def ir95_10 : IC := .loop ir95_9
def ir95_11 : IC := .block 0 ir95_10
def ir95_12 : IC := .seq ir95_r1 ir95_11
def ir95_r7 : IC := .reg [⟨some 4, none, false, .mv (.k (.int .i64 (-1)))⟩] (some [4])
def ir95_13 : IC := .seq ir95_r7 .ret
def ir95_14 : IC := .seq ir95_12 ir95_13
def ir95_15 : IC := .seq ir95_r0 ir95_14
def ir95 : IC := ir95_15
theorem fn95 : FnIs Try.prog 95 ir95 19 [.tmp 4] := ⟨Try.f95, Try.f95.body.getD .skip, Try.func95, by kernel_rfl, by kernel_rfl, by kernel_rfl, by kernel_rfl⟩
/- slices.ContainsFunc[[]boule/api.Tilt,boule/api.Tilt] · slots 9 · names 0:s 1:f 2:s 3:f · results [4] -/
def ir86_r0 : IC := .reg [⟨some 4, none, false, .mv (.k (.bool false))⟩] (some [0, 1])
def ir86_r1 : IC := .reg [⟨some 5, none, false, .mv (.t 0)⟩,
  ⟨some 6, none, false, .mv (.t 1)⟩,
  ⟨some 7, none, false, .call (.f 95) [(.t 5), (.t 6)]⟩,
  ⟨some 8, none, false, .cmp .geq (.t 7) (.k (.int .i64 0))⟩,
  ⟨some 4, none, false, .mv (.t 8)⟩] (some [4])
def ir86_1 : IC := .seq ir86_r1 .ret
def ir86_2 : IC := .seq ir86_r0 ir86_1
def ir86 : IC := ir86_2
theorem fn86 : FnIs Try.prog 86 ir86 9 [.tmp 4] := ⟨Try.f86, Try.f86.body.getD .skip, Try.func86, by kernel_rfl, by kernel_rfl, by kernel_rfl, by kernel_rfl⟩
/- boule/crop.checkTurn · slots 23 · names 0:l 1:tolerance 2:l 3:tolerance 5:bad · results [4] -/
def ir70_r0 : IC := .reg [⟨some 4, none, false, .mv (.k (.int .i64 0))⟩] (some [0, 1])
def ir70_r1 : IC := .reg [⟨some 5, none, false, .mv (.f 85)⟩] (some [0, 1, 5])
def ir70_r2 : IC := .reg [⟨some 7, none, false, .mv (.t 0)⟩,
  ⟨some 8, none, false, .len (.t 7)⟩,
  ⟨some 9, none, false, .cmp .gtr (.t 8) (.k (.int .i64 10))⟩,
  ⟨some 6, none, false, .mv (.t 9)⟩] (some [0, 1, 5, 6])
def ir70_r3 : IC := .reg [⟨some 4, none, false, .mv (.k (.int .i64 5))⟩] (some [4])
def ir70_1 : IC := .seq ir70_r3 .ret
def ir70_r4 : IC := .reg [⟨some 11, none, false, .mv (.t 0)⟩,
  ⟨some 12, none, false, .len (.t 11)⟩,
  ⟨some 13, none, false, .cmp .eql (.t 12) (.k (.int .i64 0))⟩,
  ⟨some 14, none, false, .mv (.t 13)⟩,
  ⟨some 15, some (14, false), false, .mv (.t 0)⟩,
  ⟨some 16, some (14, false), false, .mv (.t 5)⟩,
  ⟨some 17, some (14, false), false, .call (.f 86) [(.t 15), (.t 16)]⟩,
  ⟨some 18, none, false, .pick (.t 14) (.k (.bool true)) (.t 17)⟩,
  ⟨some 10, none, false, .mv (.t 18)⟩] (some [1, 10])
def ir70_r5 : IC := .reg [⟨some 4, none, false, .mv (.k (.int .i64 2))⟩] (some [4])
def ir70_2 : IC := .seq ir70_r5 .ret
def ir70_r6 : IC := .reg [⟨some 20, none, false, .mv (.t 1)⟩,
  ⟨some 21, none, false, .call (.f 57) [(.t 20), (.k (.int .i64 0)), (.k (.int .i64 36000))]⟩,
  ⟨some 22, none, false, .not (.t 21)⟩,
  ⟨some 19, none, false, .mv (.t 22)⟩] (some [19])
def ir70_r7 : IC := .reg [⟨some 4, none, false, .mv (.k (.int .i64 3))⟩] (some [4])
def ir70_3 : IC := .seq ir70_r7 .ret
def ir70_4 : IC := .cond (.t 19) ir70_3 .skip
def ir70_5 : IC := .seq ir70_r6 ir70_4
def ir70_6 : IC := .cond (.t 10) ir70_2 ir70_5
def ir70_7 : IC := .seq ir70_r4 ir70_6
def ir70_8 : IC := .cond (.t 6) ir70_1 ir70_7
def ir70_9 : IC := .seq ir70_r2 ir70_8
def ir70_10 : IC := .block 0 ir70_9
def ir70_r8 : IC := .reg [⟨some 4, none, false, .mv (.k (.int .i64 0))⟩] (some [4])
def ir70_11 : IC := .seq ir70_r8 .ret
def ir70_12 : IC := .seq ir70_10 ir70_11
def ir70_13 : IC := .seq ir70_r1 ir70_12
def ir70_14 : IC := .seq ir70_r0 ir70_13
def ir70 : IC := ir70_14
theorem fn70 : FnIs Try.prog 70 ir70 23 [.tmp 4] := ⟨Try.f70, Try.f70.body.getD .skip, Try.func70, by kernel_rfl, by kernel_rfl, by kernel_rfl, by kernel_rfl⟩
theorem wr4a (a b c d x y : Value) : writeAt [a, b, c, d] 0 [x, y] = [x, y, c, d] := rfl
theorem wr4b (a b c d x y : Value) : writeAt [a, b, c, d] 2 [x, y] = [a, b, x, y] := rfl
abbrev sqV (a : Sq) : Value := .agg #[.int .i64 a.1, .int .i64 a.2.1, .int .i64 a.2.2.1, .int .i64 a.2.2.2]
/-- Squares that come up: their numbers are small. -/
def smS (a : Sq) : Prop := (-200000 ≤ a.1 ∧ a.1 ≤ 200000) ∧ (-200000 ≤ a.2.1 ∧ a.2.1 ≤ 200000) ∧ (-200000 ≤ a.2.2.1 ∧ a.2.2.1 ≤ 200000) ∧ (-200000 ≤ a.2.2.2 ∧ a.2.2.2 ≤ 200000)
theorem sm_of {t : Tl} (ht : tltB t = true) {tol : Int} (h0 : 0 ≤ tol) (h1 : tol ≤ 36000) : smS (ofF t tol) := by
  have := tlt_ok ht
  unfold smS ofF
  simp only
  omega
theorem sm_meet {a b : Sq} (ha : smS a) (hb : smS b) : smS (meetF a b) := by
  unfold smS meetF at *
  simp only
  omega
theorem of_f (t : Tl) (tol : Int) (ht : tltB t = true) (h0 : 0 ≤ tol) (h1 : tol ≤ 36000) {h : AH} (hs : h.sees 0 = true) : Fc Try.prog 87 [tV t, .int .i64 tol] h (sqV (ofF t tol)) h := by
  have hb := tlt_ok ht
  refine Fc.lift0 ?_ rfl rfl hs
  obtain ⟨xl, xh, yl, yh⟩ := t
  simp only at hb
  refine Fc.intro0 fn87 (by simp) rfl rfl ?_; simp only [argF]
  refine ITri.seq ?_
  refine ITri.reg pokT ?_; simp -implicitDefEqProofs (disch := first | decide | exact of_eq_true (eq_true rfl) | omega | assumption) only [ ↓vcD, vcE, evs, evP, evB, intsOf, fillC, Value.cells, pt, List.append_nil, List.nil_append, List.cons_append, List.length_cons, List.length_nil, List.filter_nil, List.map_nil, ↓List.getElem?_cons_zero, ↓List.getElem?_cons_succ, List.getElem?_cons_zero, List.getElem?_cons_succ, List.set_cons_zero, List.set_cons_succ, Option.join_some, Option.join_none, Option.map_some, List.all_cons, List.all_nil, Value.oneCell', reduceIte, reduceCtorEq, Nat.reduceEqDiff, Nat.reduceAdd, Nat.reduceMul, Nat.reduceLT, Nat.reduceBEq, Nat.reduceLeDiff, Nat.reduceSub, List.size_toArray]
  refine ITri.seq ?_
  refine ITri.reg pokT ?_; simp -implicitDefEqProofs (disch := first | decide | exact of_eq_true (eq_true rfl) | omega | assumption) only [wr4a, wr4b,  ↓vcD, vcE, evs, evP, evB, intsOf, fillC, Value.cells, pt, List.append_nil, List.nil_append, List.cons_append, List.length_cons, List.length_nil, List.filter_nil, List.map_nil, ↓List.getElem?_cons_zero, ↓List.getElem?_cons_succ, List.getElem?_cons_zero, List.getElem?_cons_succ, List.set_cons_zero, List.set_cons_succ, Option.join_some, Option.join_none, Option.map_some, List.all_cons, List.all_nil, Value.oneCell', reduceIte, reduceCtorEq, Nat.reduceEqDiff, Nat.reduceAdd, Nat.reduceMul, Nat.reduceLT, Nat.reduceBEq, Nat.reduceLeDiff, Nat.reduceSub, List.size_toArray]
  refine ITri.ret ?_; exact EndR.plain (vs := [.agg ⟨[.int .i64 (-tol - xl - yl), .int .i64 (tol - xh - yh), .int .i64 (-tol - xl + yh), .int .i64 (tol - xh + yl)]⟩]) (by simp) (resF_agg 4 rfl (by kernel_rfl) (by simp -implicitDefEqProofs (disch := first | decide | exact of_eq_true (eq_true rfl) | omega | assumption) only [↓vcD, vcE, evs, evP, evB, intsOf, fillC, Value.cells, pt, List.append_nil, List.nil_append, List.cons_append, List.length_cons, List.length_nil, List.filter_nil, List.map_nil, ↓List.getElem?_cons_zero, ↓List.getElem?_cons_succ, List.getElem?_cons_zero, List.getElem?_cons_succ, List.set_cons_zero, List.set_cons_succ, Option.join_some, Option.join_none, Option.map_some, List.all_cons, List.all_nil, Value.oneCell', reduceIte, reduceCtorEq, Nat.reduceEqDiff, Nat.reduceAdd, Nat.reduceMul, Nat.reduceLT, Nat.reduceBEq, Nat.reduceLeDiff, Nat.reduceSub, List.size_toArray]) resF_nil) (by rfl) (by rfl)
theorem common_f (a b c d : Int) {h : AH} (hs : h.sees 0 = true) : Fc Try.prog 96 [.agg #[.int .i64 a, .int .i64 b], .agg #[.int .i64 c, .int .i64 d]] h (.agg #[.int .i64 (max a c), .int .i64 (min b d)]) h := by
  refine Fc.lift0 ?_ rfl rfl hs
  refine Fc.intro0 fn96 (by simp) rfl rfl ?_; simp only [argF]
  refine ITri.seq ?_
  refine ITri.reg pokT ?_; simp -implicitDefEqProofs (disch := first | decide | exact of_eq_true (eq_true rfl) | omega | assumption) only [ ↓vcD, vcE, evs, evP, evB, intsOf, fillC, Value.cells, pt, List.append_nil, List.nil_append, List.cons_append, List.length_cons, List.length_nil, List.filter_nil, List.map_nil, ↓List.getElem?_cons_zero, ↓List.getElem?_cons_succ, List.getElem?_cons_zero, List.getElem?_cons_succ, List.set_cons_zero, List.set_cons_succ, Option.join_some, Option.join_none, Option.map_some, List.all_cons, List.all_nil, Value.oneCell', reduceIte, reduceCtorEq, Nat.reduceEqDiff, Nat.reduceAdd, Nat.reduceMul, Nat.reduceLT, Nat.reduceBEq, Nat.reduceLeDiff, Nat.reduceSub, List.size_toArray]
  refine ITri.seq ?_
  refine ITri.reg pokT ?_; simp -implicitDefEqProofs (disch := first | decide | exact of_eq_true (eq_true rfl) | omega | assumption) only [ ↓vcD, vcE, evs, evP, evB, intsOf, fillC, Value.cells, pt, List.append_nil, List.nil_append, List.cons_append, List.length_cons, List.length_nil, List.filter_nil, List.map_nil, ↓List.getElem?_cons_zero, ↓List.getElem?_cons_succ, List.getElem?_cons_zero, List.getElem?_cons_succ, List.set_cons_zero, List.set_cons_succ, Option.join_some, Option.join_none, Option.map_some, List.all_cons, List.all_nil, Value.oneCell', reduceIte, reduceCtorEq, Nat.reduceEqDiff, Nat.reduceAdd, Nat.reduceMul, Nat.reduceLT, Nat.reduceBEq, Nat.reduceLeDiff, Nat.reduceSub, List.size_toArray]
  refine ITri.ret ?_; exact EndR.plain (vs := [.agg ⟨[.int .i64 (max a c), .int .i64 (min b d)]⟩]) (by simp) (resF_agg 2 rfl (by kernel_rfl) (by simp -implicitDefEqProofs (disch := first | decide | exact of_eq_true (eq_true rfl) | omega | assumption) only [↓vcD, vcE, evs, evP, evB, intsOf, fillC, Value.cells, pt, List.append_nil, List.nil_append, List.cons_append, List.length_cons, List.length_nil, List.filter_nil, List.map_nil, ↓List.getElem?_cons_zero, ↓List.getElem?_cons_succ, List.getElem?_cons_zero, List.getElem?_cons_succ, List.set_cons_zero, List.set_cons_succ, Option.join_some, Option.join_none, Option.map_some, List.all_cons, List.all_nil, Value.oneCell', reduceIte, reduceCtorEq, Nat.reduceEqDiff, Nat.reduceAdd, Nat.reduceMul, Nat.reduceLT, Nat.reduceBEq, Nat.reduceLeDiff, Nat.reduceSub, List.size_toArray]) resF_nil) (by rfl) (by rfl)
theorem meet_f (a b : Sq) {h : AH} (hs : h.sees 0 = true) : Fc Try.prog 88 [sqV a, sqV b] h (sqV (meetF a b)) h := by
  refine Fc.lift0 ?_ rfl rfl hs
  obtain ⟨a1, a2, a3, a4⟩ := a
  obtain ⟨b1, b2, b3, b4⟩ := b
  refine Fc.intro0 fn88 (by simp) rfl rfl ?_; simp only [argF]
  refine ITri.seq ?_
  refine ITri.reg pokT ?_; simp -implicitDefEqProofs (disch := first | decide | exact of_eq_true (eq_true rfl) | omega | assumption) only [ ↓vcD, vcE, evs, evP, evB, intsOf, fillC, Value.cells, pt, List.append_nil, List.nil_append, List.cons_append, List.length_cons, List.length_nil, List.filter_nil, List.map_nil, ↓List.getElem?_cons_zero, ↓List.getElem?_cons_succ, List.getElem?_cons_zero, List.getElem?_cons_succ, List.set_cons_zero, List.set_cons_succ, Option.join_some, Option.join_none, Option.map_some, List.all_cons, List.all_nil, Value.oneCell', reduceIte, reduceCtorEq, Nat.reduceEqDiff, Nat.reduceAdd, Nat.reduceMul, Nat.reduceLT, Nat.reduceBEq, Nat.reduceLeDiff, Nat.reduceSub, List.size_toArray]
  refine ITri.seq ?_
  refine ITri.reg pokT ?_; simp -implicitDefEqProofs (disch := first | decide | exact of_eq_true (eq_true rfl) | omega | assumption) only [ ↓vcD, vcE, evs, evP, evB, intsOf, fillC, Value.cells, pt, List.append_nil, List.nil_append, List.cons_append, List.length_cons, List.length_nil, List.filter_nil, List.map_nil, ↓List.getElem?_cons_zero, ↓List.getElem?_cons_succ, List.getElem?_cons_zero, List.getElem?_cons_succ, List.set_cons_zero, List.set_cons_succ, Option.join_some, Option.join_none, Option.map_some, List.all_cons, List.all_nil, Value.oneCell', reduceIte, reduceCtorEq, Nat.reduceEqDiff, Nat.reduceAdd, Nat.reduceMul, Nat.reduceLT, Nat.reduceBEq, Nat.reduceLeDiff, Nat.reduceSub, List.size_toArray]
  refine ITri.seq ?_
  refine ITri.draw pokT ?_; simp -implicitDefEqProofs (disch := first | decide | exact of_eq_true (eq_true rfl) | omega | assumption) only [ ↓vcD, vcE, evs, evP, evB, intsOf, fillC, Value.cells, pt, List.append_nil, List.nil_append, List.cons_append, List.length_cons, List.length_nil, List.filter_nil, List.map_nil, ↓List.getElem?_cons_zero, ↓List.getElem?_cons_succ, List.getElem?_cons_zero, List.getElem?_cons_succ, List.set_cons_zero, List.set_cons_succ, Option.join_some, Option.join_none, Option.map_some, List.all_cons, List.all_nil, Value.oneCell', reduceIte, reduceCtorEq, Nat.reduceEqDiff, Nat.reduceAdd, Nat.reduceMul, Nat.reduceLT, Nat.reduceBEq, Nat.reduceLeDiff, Nat.reduceSub, List.size_toArray]
  refine ⟨_, _, common_f a1 a2 b1 b2 (sees0 rfl (of_decide_eq_true rfl)), ?_⟩
  try simp -implicitDefEqProofs (disch := first | decide | exact of_eq_true (eq_true rfl) | omega | assumption) only [ ↓vcD, vcE, evs, evP, evB, intsOf, fillC, Value.cells, pt, List.append_nil, List.nil_append, List.cons_append, List.length_cons, List.length_nil, List.filter_nil, List.map_nil, ↓List.getElem?_cons_zero, ↓List.getElem?_cons_succ, List.getElem?_cons_zero, List.getElem?_cons_succ, List.set_cons_zero, List.set_cons_succ, Option.join_some, Option.join_none, Option.map_some, List.all_cons, List.all_nil, Value.oneCell', reduceIte, reduceCtorEq, Nat.reduceEqDiff, Nat.reduceAdd, Nat.reduceMul, Nat.reduceLT, Nat.reduceBEq, Nat.reduceLeDiff, Nat.reduceSub, List.size_toArray]
  refine ⟨_, _, common_f a3 a4 b3 b4 (sees0 rfl (of_decide_eq_true rfl)), ?_⟩
  simp -implicitDefEqProofs (disch := first | decide | exact of_eq_true (eq_true rfl) | omega | assumption) only [wr4a, wr4b,  ↓vcD, vcE, evs, evP, evB, intsOf, fillC, Value.cells, pt, List.append_nil, List.nil_append, List.cons_append, List.length_cons, List.length_nil, List.filter_nil, List.map_nil, ↓List.getElem?_cons_zero, ↓List.getElem?_cons_succ, List.getElem?_cons_zero, List.getElem?_cons_succ, List.set_cons_zero, List.set_cons_succ, Option.join_some, Option.join_none, Option.map_some, List.all_cons, List.all_nil, Value.oneCell', reduceIte, reduceCtorEq, Nat.reduceEqDiff, Nat.reduceAdd, Nat.reduceMul, Nat.reduceLT, Nat.reduceBEq, Nat.reduceLeDiff, Nat.reduceSub, List.size_toArray]
  refine ITri.ret ?_; exact EndR.plain (vs := [.agg ⟨[.int .i64 (max a1 b1), .int .i64 (min a2 b2), .int .i64 (max a3 b3), .int .i64 (min a4 b4)]⟩]) (by simp) (resF_agg 4 rfl (by kernel_rfl) (by simp -implicitDefEqProofs (disch := first | decide | exact of_eq_true (eq_true rfl) | omega | assumption) only [↓vcD, vcE, evs, evP, evB, intsOf, fillC, Value.cells, pt, List.append_nil, List.nil_append, List.cons_append, List.length_cons, List.length_nil, List.filter_nil, List.map_nil, ↓List.getElem?_cons_zero, ↓List.getElem?_cons_succ, List.getElem?_cons_zero, List.getElem?_cons_succ, List.set_cons_zero, List.set_cons_succ, Option.join_some, Option.join_none, Option.map_some, List.all_cons, List.all_nil, Value.oneCell', reduceIte, reduceCtorEq, Nat.reduceEqDiff, Nat.reduceAdd, Nat.reduceMul, Nat.reduceLT, Nat.reduceBEq, Nat.reduceLeDiff, Nat.reduceSub, List.size_toArray]) resF_nil) (by rfl) (by rfl)
theorem tmod2 (s : Int) : (Int.tmod s 2 = 0 ↔ s % 2 = 0) ∧ -1 ≤ Int.tmod s 2 ∧ Int.tmod s 2 ≤ 1 := by
  rcases Int.le_total 0 s with h | h
  · rw [Int.tmod_eq_emod_of_nonneg h]; omega
  · obtain ⟨u, rfl⟩ : ∃ u, s = -u := ⟨-s, by omega⟩
    rw [Int.neg_tmod, Int.tmod_eq_emod_of_nonneg (by omega)]; omega
theorem tdiv2 {s : Int} (h : s % 2 = 0) : dvI .quo s 2 = s / 2 := by
  obtain ⟨k, rfl⟩ : ∃ k, s = 2 * k := ⟨s / 2, by omega⟩
  show Int.tdiv (2 * k) 2 = _
  rw [Int.mul_tdiv_cancel_left _ (by decide)]
  omega
theorem first_f (a : Sq) (hsm : smS a) {h : AH} (hs : h.sees 0 = true) : Fc Try.prog 89 [sqV a] h (.tuple #[.agg #[.int .i64 (firstF a).1, .int .i64 (firstF a).2.1], .bool (firstF a).2.2]) h := by
  refine Fc.lift0 ?_ rfl rfl hs
  obtain ⟨sl, sh, dl, dh⟩ := a
  unfold smS at hsm
  simp only at hsm
  have endN : firstF (sl, sh, dl, dh) = (0, 0, false) → ∀ {L}, EndR Try.prog [.cell 2 86, .tmp 3] 1 [] (.tuple #[.agg #[.int .i64 (firstF (sl, sh, dl, dh)).1, .int .i64 (firstF (sl, sh, dl, dh)).2.1], .bool (firstF (sl, sh, dl, dh)).2.2]) .ret [(2, pt 2), (3, .bool false)] [] (Hp 1 (none :: L :: some (.cells ⟨[.int .i64 0, .int .i64 0], 1, false⟩) :: [])) := fun e L => by
    rw [e]
    exact EndR.plain (vs := [.agg ⟨[.int .i64 0, .int .i64 0]⟩, .bool false]) (by simp) (resF_agg 2 rfl (by kernel_rfl) (by simp -implicitDefEqProofs (disch := first | decide | exact of_eq_true (eq_true rfl) | omega | assumption) only [↓vcD, vcE, evs, evP, evB, intsOf, fillC, Value.cells, pt, List.append_nil, List.nil_append, List.cons_append, List.length_cons, List.length_nil, List.filter_nil, List.map_nil, ↓List.getElem?_cons_zero, ↓List.getElem?_cons_succ, List.getElem?_cons_zero, List.getElem?_cons_succ, List.set_cons_zero, List.set_cons_succ, Option.join_some, Option.join_none, Option.map_some, List.all_cons, List.all_nil, Value.oneCell', reduceIte, reduceCtorEq, Nat.reduceEqDiff, Nat.reduceAdd, Nat.reduceMul, Nat.reduceLT, Nat.reduceBEq, Nat.reduceLeDiff, Nat.reduceSub, List.size_toArray]) (resF_tmp rfl resF_nil)) (by rfl) (by rfl)
  refine Fc.intro0 fn89 (by simp) rfl rfl ?_; simp only [argF]
  refine ITri.seq ?_
  refine ITri.reg pokT ?_; simp -implicitDefEqProofs (disch := first | decide | exact of_eq_true (eq_true rfl) | omega | assumption) only [ ↓vcD, vcE, evs, evP, evB, intsOf, fillC, Value.cells, pt, List.append_nil, List.nil_append, List.cons_append, List.length_cons, List.length_nil, List.filter_nil, List.map_nil, ↓List.getElem?_cons_zero, ↓List.getElem?_cons_succ, List.getElem?_cons_zero, List.getElem?_cons_succ, List.set_cons_zero, List.set_cons_succ, Option.join_some, Option.join_none, Option.map_some, List.all_cons, List.all_nil, Value.oneCell', reduceIte, reduceCtorEq, Nat.reduceEqDiff, Nat.reduceAdd, Nat.reduceMul, Nat.reduceLT, Nat.reduceBEq, Nat.reduceLeDiff, Nat.reduceSub, List.size_toArray]
  refine ITri.seq ?_
  refine ITri.draw pokT ?_; simp -implicitDefEqProofs (disch := first | decide | exact of_eq_true (eq_true rfl) | omega | assumption) only [ ↓vcD, vcE, evs, evP, evB, intsOf, fillC, Value.cells, pt, List.append_nil, List.nil_append, List.cons_append, List.length_cons, List.length_nil, List.filter_nil, List.map_nil, ↓List.getElem?_cons_zero, ↓List.getElem?_cons_succ, List.getElem?_cons_zero, List.getElem?_cons_succ, List.set_cons_zero, List.set_cons_succ, Option.join_some, Option.join_none, Option.map_some, List.all_cons, List.all_nil, Value.oneCell', reduceIte, reduceCtorEq, Nat.reduceEqDiff, Nat.reduceAdd, Nat.reduceMul, Nat.reduceLT, Nat.reduceBEq, Nat.reduceLeDiff, Nat.reduceSub, List.size_toArray]
  refine ITri.seq ?_
  refine ITri.cut (fun q : Int × Int => [(2, pt 2), (4, .int .i64 q.1), (5, .int .i64 q.2)]) (fun _ => []) (fun _ => Hp 1 [none, some (.cells ⟨[.int .i64 sl, .int .i64 sh, .int .i64 dl, .int .i64 dh], 1, false⟩), some (.cells ⟨[.int .i64 0, .int .i64 0], 1, false⟩)]) (fun q => (-200001 ≤ q.1 ∧ q.1 ≤ 200001) ∧ (-200001 ≤ q.2 ∧ q.2 ≤ 200001) ∧ (q.1 + q.2) % 2 = 0 ∧ firstF (sl, sh, dl, dh) = ((q.1 + q.2) / 2, (q.1 - q.2) / 2, true)) ?_ (fun q hq => ?_)
  rotate_left
  · obtain ⟨u, v⟩ := q
    simp only at hq ⊢
    obtain ⟨hu, hv, hp, he⟩ := hq
    have hd1 := tdiv2 hp
    have hd2 := tdiv2 (s := u - v) (by omega)
    refine ITri.seq ?_
    refine ITri.reg pokT ?_; simp -implicitDefEqProofs (disch := first | decide | exact of_eq_true (eq_true rfl) | omega | assumption) only [hd1, hd2,  ↓vcD, vcE, evs, evP, evB, intsOf, fillC, Value.cells, pt, List.append_nil, List.nil_append, List.cons_append, List.length_cons, List.length_nil, List.filter_nil, List.map_nil, ↓List.getElem?_cons_zero, ↓List.getElem?_cons_succ, List.getElem?_cons_zero, List.getElem?_cons_succ, List.set_cons_zero, List.set_cons_succ, Option.join_some, Option.join_none, Option.map_some, List.all_cons, List.all_nil, Value.oneCell', reduceIte, reduceCtorEq, Nat.reduceEqDiff, Nat.reduceAdd, Nat.reduceMul, Nat.reduceLT, Nat.reduceBEq, Nat.reduceLeDiff, Nat.reduceSub, List.size_toArray]
    rw [he]
    refine ITri.ret ?_; exact EndR.plain (vs := [.agg ⟨[.int .i64 ((u + v) / 2), .int .i64 ((u - v) / 2)]⟩, .bool true]) (by simp) (resF_agg 2 rfl (by kernel_rfl) (by simp -implicitDefEqProofs (disch := first | decide | exact of_eq_true (eq_true rfl) | omega | assumption) only [↓vcD, vcE, evs, evP, evB, intsOf, fillC, Value.cells, pt, List.append_nil, List.nil_append, List.cons_append, List.length_cons, List.length_nil, List.filter_nil, List.map_nil, ↓List.getElem?_cons_zero, ↓List.getElem?_cons_succ, List.getElem?_cons_zero, List.getElem?_cons_succ, List.set_cons_zero, List.set_cons_succ, Option.join_some, Option.join_none, Option.map_some, List.all_cons, List.all_nil, Value.oneCell', reduceIte, reduceCtorEq, Nat.reduceEqDiff, Nat.reduceAdd, Nat.reduceMul, Nat.reduceLT, Nat.reduceBEq, Nat.reduceLeDiff, Nat.reduceSub, List.size_toArray]) (resF_tmp rfl resF_nil)) (by rfl) (by rfl)
  refine ITri.block ?_
  refine ITri.seq ?_
  by_cases g1 : sh < sl
  · refine ITri.reg pokT ?_; simp -implicitDefEqProofs (disch := first | decide | exact of_eq_true (eq_true rfl) | omega | assumption) only [g1, decide_true,  ↓vcD, vcE, evs, evP, evB, intsOf, fillC, Value.cells, pt, List.append_nil, List.nil_append, List.cons_append, List.length_cons, List.length_nil, List.filter_nil, List.map_nil, ↓List.getElem?_cons_zero, ↓List.getElem?_cons_succ, List.getElem?_cons_zero, List.getElem?_cons_succ, List.set_cons_zero, List.set_cons_succ, Option.join_some, Option.join_none, Option.map_some, List.all_cons, List.all_nil, Value.oneCell', reduceIte, reduceCtorEq, Nat.reduceEqDiff, Nat.reduceAdd, Nat.reduceMul, Nat.reduceLT, Nat.reduceBEq, Nat.reduceLeDiff, Nat.reduceSub, List.size_toArray]
    refine ITri.cond (v := true) rfl (fun _ => ?_) (fun h => by cases h)
    refine ITri.seq ?_
    refine ITri.reg pokT ?_; simp -implicitDefEqProofs (disch := first | decide | exact of_eq_true (eq_true rfl) | omega | assumption) only [ ↓vcD, vcE, evs, evP, evB, intsOf, fillC, Value.cells, pt, List.append_nil, List.nil_append, List.cons_append, List.length_cons, List.length_nil, List.filter_nil, List.map_nil, ↓List.getElem?_cons_zero, ↓List.getElem?_cons_succ, List.getElem?_cons_zero, List.getElem?_cons_succ, List.set_cons_zero, List.set_cons_succ, Option.join_some, Option.join_none, Option.map_some, List.all_cons, List.all_nil, Value.oneCell', reduceIte, reduceCtorEq, Nat.reduceEqDiff, Nat.reduceAdd, Nat.reduceMul, Nat.reduceLT, Nat.reduceBEq, Nat.reduceLeDiff, Nat.reduceSub, List.size_toArray]
    refine ITri.ret ?_; exact endN (by unfold firstF; rw [if_pos (.inl g1)])
  by_cases g2 : dh < dl
  · refine ITri.reg pokT ?_; simp -implicitDefEqProofs (disch := first | decide | exact of_eq_true (eq_true rfl) | omega | assumption) only [g1, g2, decide_true, decide_false,  ↓vcD, vcE, evs, evP, evB, intsOf, fillC, Value.cells, pt, List.append_nil, List.nil_append, List.cons_append, List.length_cons, List.length_nil, List.filter_nil, List.map_nil, ↓List.getElem?_cons_zero, ↓List.getElem?_cons_succ, List.getElem?_cons_zero, List.getElem?_cons_succ, List.set_cons_zero, List.set_cons_succ, Option.join_some, Option.join_none, Option.map_some, List.all_cons, List.all_nil, Value.oneCell', reduceIte, reduceCtorEq, Nat.reduceEqDiff, Nat.reduceAdd, Nat.reduceMul, Nat.reduceLT, Nat.reduceBEq, Nat.reduceLeDiff, Nat.reduceSub, List.size_toArray]
    refine ITri.cond (v := true) rfl (fun _ => ?_) (fun h => by cases h)
    refine ITri.seq ?_
    refine ITri.reg pokT ?_; simp -implicitDefEqProofs (disch := first | decide | exact of_eq_true (eq_true rfl) | omega | assumption) only [ ↓vcD, vcE, evs, evP, evB, intsOf, fillC, Value.cells, pt, List.append_nil, List.nil_append, List.cons_append, List.length_cons, List.length_nil, List.filter_nil, List.map_nil, ↓List.getElem?_cons_zero, ↓List.getElem?_cons_succ, List.getElem?_cons_zero, List.getElem?_cons_succ, List.set_cons_zero, List.set_cons_succ, Option.join_some, Option.join_none, Option.map_some, List.all_cons, List.all_nil, Value.oneCell', reduceIte, reduceCtorEq, Nat.reduceEqDiff, Nat.reduceAdd, Nat.reduceMul, Nat.reduceLT, Nat.reduceBEq, Nat.reduceLeDiff, Nat.reduceSub, List.size_toArray]
    refine ITri.ret ?_; exact endN (by unfold firstF; rw [if_pos (.inr g2)])
  have e0 : firstF (sl, sh, dl, dh) = _ := if_neg (show ¬ (sh < sl ∨ dh < dl) by omega)
  refine ITri.reg pokT ?_; simp -implicitDefEqProofs (disch := first | decide | exact of_eq_true (eq_true rfl) | omega | assumption) only [g1, g2, decide_false,  ↓vcD, vcE, evs, evP, evB, intsOf, fillC, Value.cells, pt, List.append_nil, List.nil_append, List.cons_append, List.length_cons, List.length_nil, List.filter_nil, List.map_nil, ↓List.getElem?_cons_zero, ↓List.getElem?_cons_succ, List.getElem?_cons_zero, List.getElem?_cons_succ, List.set_cons_zero, List.set_cons_succ, Option.join_some, Option.join_none, Option.map_some, List.all_cons, List.all_nil, Value.oneCell', reduceIte, reduceCtorEq, Nat.reduceEqDiff, Nat.reduceAdd, Nat.reduceMul, Nat.reduceLT, Nat.reduceBEq, Nat.reduceLeDiff, Nat.reduceSub, List.size_toArray]
  refine ITri.cond (v := false) rfl (fun h => by cases h) (fun _ => ?_)
  refine ITri.seq ?_
  have htm := tmod2 (sl + dl)
  have hrm : dvI .rem (sl + dl) 2 = Int.tmod (sl + dl) 2 := rfl
  by_cases g3 : (sl + dl) % 2 = 0
  · have h3 := htm.1.2 g3
    refine ITri.reg pokT ?_; simp -implicitDefEqProofs (disch := first | decide | exact of_eq_true (eq_true rfl) | omega | assumption) only [hrm, h3, decide_true,  ↓vcD, vcE, evs, evP, evB, intsOf, fillC, Value.cells, pt, List.append_nil, List.nil_append, List.cons_append, List.length_cons, List.length_nil, List.filter_nil, List.map_nil, ↓List.getElem?_cons_zero, ↓List.getElem?_cons_succ, List.getElem?_cons_zero, List.getElem?_cons_succ, List.set_cons_zero, List.set_cons_succ, Option.join_some, Option.join_none, Option.map_some, List.all_cons, List.all_nil, Value.oneCell', reduceIte, reduceCtorEq, Nat.reduceEqDiff, Nat.reduceAdd, Nat.reduceMul, Nat.reduceLT, Nat.reduceBEq, Nat.reduceLeDiff, Nat.reduceSub, List.size_toArray]
    refine ITri.cond (v := true) rfl (fun _ => ?_) (fun h => by cases h)
    refine ITri.skip ?_; simp only [SeqQ_normal, BlkQ_normal]
    refine CutQ.mk (sl, dl) ⟨by simp only; omega, by simp only; omega, g3, ?_⟩ (Wk.sub ⟨rfl, rfl, rfl, trivial⟩)
    rw [e0]
    exact if_pos g3
  have h3 : ¬ Int.tmod (sl + dl) 2 = 0 := fun h => g3 (htm.1.1 h)
  have htm2 := htm.2
  rw [if_neg (show ¬ (sl + dl) % 2 = 0 from g3)] at e0
  refine ITri.reg pokT ?_; simp -implicitDefEqProofs (disch := first | decide | exact of_eq_true (eq_true rfl) | omega | assumption) only [hrm, h3, decide_false,  ↓vcD, vcE, evs, evP, evB, intsOf, fillC, Value.cells, pt, List.append_nil, List.nil_append, List.cons_append, List.length_cons, List.length_nil, List.filter_nil, List.map_nil, ↓List.getElem?_cons_zero, ↓List.getElem?_cons_succ, List.getElem?_cons_zero, List.getElem?_cons_succ, List.set_cons_zero, List.set_cons_succ, Option.join_some, Option.join_none, Option.map_some, List.all_cons, List.all_nil, Value.oneCell', reduceIte, reduceCtorEq, Nat.reduceEqDiff, Nat.reduceAdd, Nat.reduceMul, Nat.reduceLT, Nat.reduceBEq, Nat.reduceLeDiff, Nat.reduceSub, List.size_toArray]
  refine ITri.cond (v := false) rfl (fun h => by cases h) (fun _ => ?_)
  refine ITri.seq ?_
  by_cases g4 : dl < dh
  · refine ITri.reg pokT ?_; simp -implicitDefEqProofs (disch := first | decide | exact of_eq_true (eq_true rfl) | omega | assumption) only [g4, decide_true,  ↓vcD, vcE, evs, evP, evB, intsOf, fillC, Value.cells, pt, List.append_nil, List.nil_append, List.cons_append, List.length_cons, List.length_nil, List.filter_nil, List.map_nil, ↓List.getElem?_cons_zero, ↓List.getElem?_cons_succ, List.getElem?_cons_zero, List.getElem?_cons_succ, List.set_cons_zero, List.set_cons_succ, Option.join_some, Option.join_none, Option.map_some, List.all_cons, List.all_nil, Value.oneCell', reduceIte, reduceCtorEq, Nat.reduceEqDiff, Nat.reduceAdd, Nat.reduceMul, Nat.reduceLT, Nat.reduceBEq, Nat.reduceLeDiff, Nat.reduceSub, List.size_toArray]
    refine ITri.cond (v := true) rfl (fun _ => ?_) (fun h => by cases h)
    refine ITri.reg pokT ?_; simp -implicitDefEqProofs (disch := first | decide | exact of_eq_true (eq_true rfl) | omega | assumption) only [ ↓vcD, vcE, evs, evP, evB, intsOf, fillC, Value.cells, pt, List.append_nil, List.nil_append, List.cons_append, List.length_cons, List.length_nil, List.filter_nil, List.map_nil, ↓List.getElem?_cons_zero, ↓List.getElem?_cons_succ, List.getElem?_cons_zero, List.getElem?_cons_succ, List.set_cons_zero, List.set_cons_succ, Option.join_some, Option.join_none, Option.map_some, List.all_cons, List.all_nil, Value.oneCell', reduceIte, reduceCtorEq, Nat.reduceEqDiff, Nat.reduceAdd, Nat.reduceMul, Nat.reduceLT, Nat.reduceBEq, Nat.reduceLeDiff, Nat.reduceSub, List.size_toArray]
    refine CutQ.mk (sl, dl + 1) ⟨by simp only; omega, by simp only; omega, by simp only; omega, ?_⟩ (Wk.sub ⟨rfl, rfl, rfl, trivial⟩)
    rw [e0]
    exact if_pos g4
  rw [if_neg (show ¬ dl < dh from g4)] at e0
  refine ITri.reg pokT ?_; simp -implicitDefEqProofs (disch := first | decide | exact of_eq_true (eq_true rfl) | omega | assumption) only [g4, decide_false,  ↓vcD, vcE, evs, evP, evB, intsOf, fillC, Value.cells, pt, List.append_nil, List.nil_append, List.cons_append, List.length_cons, List.length_nil, List.filter_nil, List.map_nil, ↓List.getElem?_cons_zero, ↓List.getElem?_cons_succ, List.getElem?_cons_zero, List.getElem?_cons_succ, List.set_cons_zero, List.set_cons_succ, Option.join_some, Option.join_none, Option.map_some, List.all_cons, List.all_nil, Value.oneCell', reduceIte, reduceCtorEq, Nat.reduceEqDiff, Nat.reduceAdd, Nat.reduceMul, Nat.reduceLT, Nat.reduceBEq, Nat.reduceLeDiff, Nat.reduceSub, List.size_toArray]
  refine ITri.cond (v := false) rfl (fun h => by cases h) (fun _ => ?_)
  refine ITri.seq ?_
  by_cases g5 : sl < sh
  · refine ITri.reg pokT ?_; simp -implicitDefEqProofs (disch := first | decide | exact of_eq_true (eq_true rfl) | omega | assumption) only [g5, decide_true,  ↓vcD, vcE, evs, evP, evB, intsOf, fillC, Value.cells, pt, List.append_nil, List.nil_append, List.cons_append, List.length_cons, List.length_nil, List.filter_nil, List.map_nil, ↓List.getElem?_cons_zero, ↓List.getElem?_cons_succ, List.getElem?_cons_zero, List.getElem?_cons_succ, List.set_cons_zero, List.set_cons_succ, Option.join_some, Option.join_none, Option.map_some, List.all_cons, List.all_nil, Value.oneCell', reduceIte, reduceCtorEq, Nat.reduceEqDiff, Nat.reduceAdd, Nat.reduceMul, Nat.reduceLT, Nat.reduceBEq, Nat.reduceLeDiff, Nat.reduceSub, List.size_toArray]
    refine ITri.cond (v := true) rfl (fun _ => ?_) (fun h => by cases h)
    refine ITri.reg pokT ?_; simp -implicitDefEqProofs (disch := first | decide | exact of_eq_true (eq_true rfl) | omega | assumption) only [ ↓vcD, vcE, evs, evP, evB, intsOf, fillC, Value.cells, pt, List.append_nil, List.nil_append, List.cons_append, List.length_cons, List.length_nil, List.filter_nil, List.map_nil, ↓List.getElem?_cons_zero, ↓List.getElem?_cons_succ, List.getElem?_cons_zero, List.getElem?_cons_succ, List.set_cons_zero, List.set_cons_succ, Option.join_some, Option.join_none, Option.map_some, List.all_cons, List.all_nil, Value.oneCell', reduceIte, reduceCtorEq, Nat.reduceEqDiff, Nat.reduceAdd, Nat.reduceMul, Nat.reduceLT, Nat.reduceBEq, Nat.reduceLeDiff, Nat.reduceSub, List.size_toArray]
    refine CutQ.mk (sl + 1, dl) ⟨by simp only; omega, by simp only; omega, by simp only; omega, ?_⟩ (Wk.sub ⟨rfl, rfl, rfl, trivial⟩)
    rw [e0]
    exact if_pos g5
  rw [if_neg (show ¬ sl < sh from g5)] at e0
  refine ITri.reg pokT ?_; simp -implicitDefEqProofs (disch := first | decide | exact of_eq_true (eq_true rfl) | omega | assumption) only [g5, decide_false,  ↓vcD, vcE, evs, evP, evB, intsOf, fillC, Value.cells, pt, List.append_nil, List.nil_append, List.cons_append, List.length_cons, List.length_nil, List.filter_nil, List.map_nil, ↓List.getElem?_cons_zero, ↓List.getElem?_cons_succ, List.getElem?_cons_zero, List.getElem?_cons_succ, List.set_cons_zero, List.set_cons_succ, Option.join_some, Option.join_none, Option.map_some, List.all_cons, List.all_nil, Value.oneCell', reduceIte, reduceCtorEq, Nat.reduceEqDiff, Nat.reduceAdd, Nat.reduceMul, Nat.reduceLT, Nat.reduceBEq, Nat.reduceLeDiff, Nat.reduceSub, List.size_toArray]
  refine ITri.cond (v := false) rfl (fun h => by cases h) (fun _ => ?_)
  refine ITri.seq ?_
  refine ITri.reg pokT ?_; simp -implicitDefEqProofs (disch := first | decide | exact of_eq_true (eq_true rfl) | omega | assumption) only [ ↓vcD, vcE, evs, evP, evB, intsOf, fillC, Value.cells, pt, List.append_nil, List.nil_append, List.cons_append, List.length_cons, List.length_nil, List.filter_nil, List.map_nil, ↓List.getElem?_cons_zero, ↓List.getElem?_cons_succ, List.getElem?_cons_zero, List.getElem?_cons_succ, List.set_cons_zero, List.set_cons_succ, Option.join_some, Option.join_none, Option.map_some, List.all_cons, List.all_nil, Value.oneCell', reduceIte, reduceCtorEq, Nat.reduceEqDiff, Nat.reduceAdd, Nat.reduceMul, Nat.reduceLT, Nat.reduceBEq, Nat.reduceLeDiff, Nat.reduceSub, List.size_toArray]
  refine ITri.ret ?_; exact endN e0

def idxT (p : Tl → Bool) (xs : List Tl) : Int := match xs.findIdx? p with | some i => (i : Int) | none => -1
theorem idxT_none {p : Tl → Bool} {xs : List Tl} (h : xs.any p = false) : idxT p xs = -1 := by
  unfold idxT
  rw [List.findIdx?_eq_none_iff.2 (fun x hx => by simpa using List.any_eq_false.1 h x hx)]
theorem idxT_some {p : Tl → Bool} {xs : List Tl} {i : Nat} (hi : i < xs.length) (hp : p (nth xs i) = true) (hb : ∀ j, j < i → p (nth xs j) = false) : idxT p xs = i := by
  unfold idxT
  rw [List.findIdx?_eq_some_iff_getElem.2 ⟨hi, by rw [← List.getElem?_eq_some_iff.1 (get_nth hi) |>.2] at hp; exact hp, fun j hj => by
    have := hb j hj
    rw [← List.getElem?_eq_some_iff.1 (get_nth (show j < xs.length by omega)) |>.2] at this
    simp [this]⟩]
theorem idxT_any {p : Tl → Bool} {xs : List Tl} : decide (0 ≤ idxT p xs) = xs.any p := by
  cases h : xs.any p with
  | false => rw [idxT_none h]; rfl
  | true =>
    unfold idxT
    cases e : xs.findIdx? p with
    | none => rw [List.findIdx?_eq_none_iff] at e; rw [List.any_eq_true] at h; obtain ⟨x, hx, h⟩ := h; rw [e x hx] at h; cases h
    | some i => simp
theorem anyT_before {p : Tl → Bool} {xs : List Tl} {n : Nat} (hn : xs.length = n) (hj : ∀ j, j < n → p (nth xs j) = false) : xs.any p = false := by
  rw [List.any_eq_false]
  intro x hx
  obtain ⟨i, hi, rfl⟩ := List.mem_iff_getElem.1 hx
  have := hj i (by omega)
  rw [show xs[i] = nth xs i from (List.getElem?_eq_some_iff.1 (get_nth hi)).2]
  simp [this]
abbrev mT (cs : List Value) : AH := Hp 2 [none, some (.cells ⟨cs, 0, false⟩)]
abbrev sT (n c : Nat) : Value := .slice (some ⟨1, 0, none⟩) n c
theorem takeT {xs : List Tl} {i : Nat} (hi : i < xs.length) : takeC (rows eT xs) (i * 4) 4 = some (eT (nth xs i)) := rows_takeC (f := eT) hi
theorem badTilt_f (t : Tl) {h : AH} (hs : h.sees 0 = true) : Fc Try.prog 85 [tV t] h (.bool (!tltB t)) h := by
  refine Fc.lift0 ?_ rfl rfl hs
  refine Fc.intro0 fn85 (by simp) rfl rfl ?_; simp only [argF]
  refine ITri.seq ?_
  refine ITri.reg pokT ?_; simp -implicitDefEqProofs (disch := first | decide | exact of_eq_true (eq_true rfl) | omega | assumption) only [ ↓vcD, vcE, evs, evP, evB, intsOf, fillC, Value.cells, pt, List.append_nil, List.nil_append, List.cons_append, List.length_cons, List.length_nil, List.filter_nil, List.map_nil, ↓List.getElem?_cons_zero, ↓List.getElem?_cons_succ, List.getElem?_cons_zero, List.getElem?_cons_succ, List.set_cons_zero, List.set_cons_succ, Option.join_some, Option.join_none, Option.map_some, List.all_cons, List.all_nil, Value.oneCell', reduceIte, reduceCtorEq, Nat.reduceEqDiff, Nat.reduceAdd, Nat.reduceMul, Nat.reduceLT, Nat.reduceBEq, Nat.reduceLeDiff, Nat.reduceSub, List.size_toArray]
  refine ITri.seq ?_
  refine ITri.reg pokT ?_; simp -implicitDefEqProofs (disch := first | decide | exact of_eq_true (eq_true rfl) | omega | assumption) only [ ↓vcD, vcE, evs, evP, evB, intsOf, fillC, Value.cells, pt, List.append_nil, List.nil_append, List.cons_append, List.length_cons, List.length_nil, List.filter_nil, List.map_nil, ↓List.getElem?_cons_zero, ↓List.getElem?_cons_succ, List.getElem?_cons_zero, List.getElem?_cons_succ, List.set_cons_zero, List.set_cons_succ, Option.join_some, Option.join_none, Option.map_some, List.all_cons, List.all_nil, Value.oneCell', reduceIte, reduceCtorEq, Nat.reduceEqDiff, Nat.reduceAdd, Nat.reduceMul, Nat.reduceLT, Nat.reduceBEq, Nat.reduceLeDiff, Nat.reduceSub, List.size_toArray]
  refine ⟨_, _, isTilt_f t (sees0 rfl (of_decide_eq_true rfl)), ?_⟩
  try simp -implicitDefEqProofs (disch := first | decide | exact of_eq_true (eq_true rfl) | omega | assumption) only [ ↓vcD, vcE, evs, evP, evB, intsOf, fillC, Value.cells, pt, List.append_nil, List.nil_append, List.cons_append, List.length_cons, List.length_nil, List.filter_nil, List.map_nil, ↓List.getElem?_cons_zero, ↓List.getElem?_cons_succ, List.getElem?_cons_zero, List.getElem?_cons_succ, List.set_cons_zero, List.set_cons_succ, Option.join_some, Option.join_none, Option.map_some, List.all_cons, List.all_nil, Value.oneCell', reduceIte, reduceCtorEq, Nat.reduceEqDiff, Nat.reduceAdd, Nat.reduceMul, Nat.reduceLT, Nat.reduceBEq, Nat.reduceLeDiff, Nat.reduceSub, List.size_toArray]
  refine ITri.ret ?_; exact EndR.plain (by simp) (by rfl) (by rfl) (by rfl)
theorem indexT_f (n : Nat) (xs : List Tl) (hn : xs.length = n) (hb : n ≤ 1000000) {h : AH} {s : Value} (h0 : h.sees 0 = true) (r : Rd h s n (rows eT xs)) :
    Fc Try.prog 95 [s, .func (.func 85) #[] #[]] h (.int .i64 (idxT (fun t => !tltB t) xs)) h := by
  refine Fc.lift1 (mk := fun ss => ss ++ [.func (.func 85) #[] #[]]) (mkv := fun _ => .int .i64 (idxT (fun t => !tltB t) xs)) (os := []) (fun c => ?_) (MkL.app rfl) (MkV.const rfl) (rows_no (f := eT) xs) (fun o ho => by cases ho) h0 r
  refine Fc.intro0 (h := mT (rows eT xs)) fn95 (by simp) rfl rfl ?_; simp only [argF, List.cons_append, List.nil_append]
  refine ITri.seq ?_
  refine ITri.reg pokT ?_; simp -implicitDefEqProofs (disch := first | decide | exact of_eq_true (eq_true rfl) | omega | assumption) only [ ↓vcD, vcE, evs, evP, evB, intsOf, fillC, Value.cells, pt, List.append_nil, List.nil_append, List.cons_append, List.length_cons, List.length_nil, List.filter_nil, List.map_nil, ↓List.getElem?_cons_zero, ↓List.getElem?_cons_succ, List.getElem?_cons_zero, List.getElem?_cons_succ, List.set_cons_zero, List.set_cons_succ, Option.join_some, Option.join_none, Option.map_some, List.all_cons, List.all_nil, Value.oneCell', reduceIte, reduceCtorEq, Nat.reduceEqDiff, Nat.reduceAdd, Nat.reduceMul, Nat.reduceLT, Nat.reduceBEq, Nat.reduceLeDiff, Nat.reduceSub, List.size_toArray] -- r0 slices.go:107
  refine ITri.seq ?_
  refine ITri.seq ?_
  refine ITri.reg pokT ?_; simp -implicitDefEqProofs (disch := first | decide | exact of_eq_true (eq_true rfl) | omega | assumption) only [ ↓vcD, vcE, evs, evP, evB, intsOf, fillC, Value.cells, pt, List.append_nil, List.nil_append, List.cons_append, List.length_cons, List.length_nil, List.filter_nil, List.map_nil, ↓List.getElem?_cons_zero, ↓List.getElem?_cons_succ, List.getElem?_cons_zero, List.getElem?_cons_succ, List.set_cons_zero, List.set_cons_succ, Option.join_some, Option.join_none, Option.map_some, List.all_cons, List.all_nil, Value.oneCell', reduceIte, reduceCtorEq, Nat.reduceEqDiff, Nat.reduceAdd, Nat.reduceMul, Nat.reduceLT, Nat.reduceBEq, Nat.reduceLeDiff, Nat.reduceSub, List.size_toArray] -- r1
  refine ITri.block ?_
  refine ITri.loop (fun k : Nat => [(0, sT n c), (1, .func (.func 85) #[] #[]), (7, .int .i64 n), (8, .int .i64 k)]) (fun _ => []) (fun k => mT (rows eT xs)) (fun k => k ≤ n ∧ ∀ j, j < k → (!tltB (nth xs j)) = false) (fun k => n - k) 0 ⟨Nat.zero_le _, fun j hj => by omega⟩ (Wk.sub ⟨rfl, rfl, rfl, rfl, trivial⟩) fun k hk => ?_
  obtain ⟨hk, hj⟩ := hk
  refine ITri.seq ?_
  refine ITri.reg pokT ?_; simp -implicitDefEqProofs (disch := first | decide | exact of_eq_true (eq_true rfl) | omega | assumption) only [ ↓vcD, vcE, evs, evP, evB, intsOf, fillC, Value.cells, pt, List.append_nil, List.nil_append, List.cons_append, List.length_cons, List.length_nil, List.filter_nil, List.map_nil, ↓List.getElem?_cons_zero, ↓List.getElem?_cons_succ, List.getElem?_cons_zero, List.getElem?_cons_succ, List.set_cons_zero, List.set_cons_succ, Option.join_some, Option.join_none, Option.map_some, List.all_cons, List.all_nil, Value.oneCell', reduceIte, reduceCtorEq, Nat.reduceEqDiff, Nat.reduceAdd, Nat.reduceMul, Nat.reduceLT, Nat.reduceBEq, Nat.reduceLeDiff, Nat.reduceSub, List.size_toArray]
  refine ITri.seq ?_
  refine ITri.condD (by rfl) (fun h1 => ?_) (fun h1 => ?_)
  · have h2 : k < n := by omega
    refine ITri.skip ?_; simp only [SeqQ_normal, BlkQ_normal]
    refine ITri.seq ?_
    refine ITri.block ?_
    refine ITri.seq ?_
    refine ITri.reg pokT ?_; simp -implicitDefEqProofs (disch := first | decide | exact of_eq_true (eq_true rfl) | omega | assumption) only [ ↓vcD, vcE, evs, evP, evB, intsOf, fillC, Value.cells, pt, List.append_nil, List.nil_append, List.cons_append, List.length_cons, List.length_nil, List.filter_nil, List.map_nil, ↓List.getElem?_cons_zero, ↓List.getElem?_cons_succ, List.getElem?_cons_zero, List.getElem?_cons_succ, List.set_cons_zero, List.set_cons_succ, Option.join_some, Option.join_none, Option.map_some, List.all_cons, List.all_nil, Value.oneCell', reduceIte, reduceCtorEq, Nat.reduceEqDiff, Nat.reduceAdd, Nat.reduceMul, Nat.reduceLT, Nat.reduceBEq, Nat.reduceLeDiff, Nat.reduceSub, List.size_toArray]
    refine ITri.seq ?_
    refine ITri.reg pokT ?_; simp -implicitDefEqProofs (disch := first | decide | exact of_eq_true (eq_true rfl) | omega | assumption) only [takeT,  ↓vcD, vcE, evs, evP, evB, intsOf, fillC, Value.cells, pt, List.append_nil, List.nil_append, List.cons_append, List.length_cons, List.length_nil, List.filter_nil, List.map_nil, ↓List.getElem?_cons_zero, ↓List.getElem?_cons_succ, List.getElem?_cons_zero, List.getElem?_cons_succ, List.set_cons_zero, List.set_cons_succ, Option.join_some, Option.join_none, Option.map_some, List.all_cons, List.all_nil, Value.oneCell', reduceIte, reduceCtorEq, Nat.reduceEqDiff, Nat.reduceAdd, Nat.reduceMul, Nat.reduceLT, Nat.reduceBEq, Nat.reduceLeDiff, Nat.reduceSub, List.size_toArray]
    refine ⟨_, _, badTilt_f (nth xs k) (sees0 rfl (of_decide_eq_true rfl)), ?_⟩
    try simp -implicitDefEqProofs (disch := first | decide | exact of_eq_true (eq_true rfl) | omega | assumption) only [ ↓vcD, vcE, evs, evP, evB, intsOf, fillC, Value.cells, pt, List.append_nil, List.nil_append, List.cons_append, List.length_cons, List.length_nil, List.filter_nil, List.map_nil, ↓List.getElem?_cons_zero, ↓List.getElem?_cons_succ, List.getElem?_cons_zero, List.getElem?_cons_succ, List.set_cons_zero, List.set_cons_succ, Option.join_some, Option.join_none, Option.map_some, List.all_cons, List.all_nil, Value.oneCell', reduceIte, reduceCtorEq, Nat.reduceEqDiff, Nat.reduceAdd, Nat.reduceMul, Nat.reduceLT, Nat.reduceBEq, Nat.reduceLeDiff, Nat.reduceSub, List.size_toArray]
    refine ITri.cond (by rfl) (fun h3 => ?_) (fun h3 => ?_)
    · refine ITri.seq ?_
      refine ITri.reg pokT ?_; simp -implicitDefEqProofs (disch := first | decide | exact of_eq_true (eq_true rfl) | omega | assumption) only [ ↓vcD, vcE, evs, evP, evB, intsOf, fillC, Value.cells, pt, List.append_nil, List.nil_append, List.cons_append, List.length_cons, List.length_nil, List.filter_nil, List.map_nil, ↓List.getElem?_cons_zero, ↓List.getElem?_cons_succ, List.getElem?_cons_zero, List.getElem?_cons_succ, List.set_cons_zero, List.set_cons_succ, Option.join_some, Option.join_none, Option.map_some, List.all_cons, List.all_nil, Value.oneCell', reduceIte, reduceCtorEq, Nat.reduceEqDiff, Nat.reduceAdd, Nat.reduceMul, Nat.reduceLT, Nat.reduceBEq, Nat.reduceLeDiff, Nat.reduceSub, List.size_toArray]
      refine ITri.ret ?_; exact EndR.plain (by simp) (by rfl) (by rw [idxT_some (p := fun t => !tltB t) (by omega) h3 hj]; rfl) (by rfl)
    refine ITri.skip ?_; simp only [SeqQ_normal, BlkQ_normal]
    refine ITri.reg pokT ?_; simp -implicitDefEqProofs (disch := first | decide | exact of_eq_true (eq_true rfl) | omega | assumption) only [ ↓vcD, vcE, evs, evP, evB, intsOf, fillC, Value.cells, pt, List.append_nil, List.nil_append, List.cons_append, List.length_cons, List.length_nil, List.filter_nil, List.map_nil, ↓List.getElem?_cons_zero, ↓List.getElem?_cons_succ, List.getElem?_cons_zero, List.getElem?_cons_succ, List.set_cons_zero, List.set_cons_succ, Option.join_some, Option.join_none, Option.map_some, List.all_cons, List.all_nil, Value.oneCell', reduceIte, reduceCtorEq, Nat.reduceEqDiff, Nat.reduceAdd, Nat.reduceMul, Nat.reduceLT, Nat.reduceBEq, Nat.reduceLeDiff, Nat.reduceSub, List.size_toArray]
    refine LoopQ.next (k + 1) ⟨by omega, fun j hj2 => ?_⟩ (by omega) (Wk.sub ⟨rfl, rfl, rfl, rfl, trivial⟩)
    rcases Nat.lt_or_ge j k with q | q
    · exact hj j q
    · obtain rfl : j = k := by omega
      exact h3
  refine ITri.exit ?_; try simp -implicitDefEqProofs (disch := first | decide | exact of_eq_true (eq_true rfl) | omega | assumption) only [ ↓vcD, vcE, evs, evP, evB, intsOf, fillC, Value.cells, pt, List.append_nil, List.nil_append, List.cons_append, List.length_cons, List.length_nil, List.filter_nil, List.map_nil, ↓List.getElem?_cons_zero, ↓List.getElem?_cons_succ, List.getElem?_cons_zero, List.getElem?_cons_succ, List.set_cons_zero, List.set_cons_succ, Option.join_some, Option.join_none, Option.map_some, List.all_cons, List.all_nil, Value.oneCell', reduceIte, reduceCtorEq, Nat.reduceEqDiff, Nat.reduceAdd, Nat.reduceMul, Nat.reduceLT, Nat.reduceBEq, Nat.reduceLeDiff, Nat.reduceSub, List.size_toArray]
  obtain rfl : n = k := by omega
  refine ITri.seq ?_
  refine ITri.reg pokT ?_; simp -implicitDefEqProofs (disch := first | decide | exact of_eq_true (eq_true rfl) | omega | assumption) only [ ↓vcD, vcE, evs, evP, evB, intsOf, fillC, Value.cells, pt, List.append_nil, List.nil_append, List.cons_append, List.length_cons, List.length_nil, List.filter_nil, List.map_nil, ↓List.getElem?_cons_zero, ↓List.getElem?_cons_succ, List.getElem?_cons_zero, List.getElem?_cons_succ, List.set_cons_zero, List.set_cons_succ, Option.join_some, Option.join_none, Option.map_some, List.all_cons, List.all_nil, Value.oneCell', reduceIte, reduceCtorEq, Nat.reduceEqDiff, Nat.reduceAdd, Nat.reduceMul, Nat.reduceLT, Nat.reduceBEq, Nat.reduceLeDiff, Nat.reduceSub, List.size_toArray]
  refine ITri.ret ?_; exact EndR.plain (by simp) (by rfl) (by rw [idxT_none (anyT_before hn hj)]; rfl) (by rfl)
theorem containsT_f (n : Nat) (xs : List Tl) (hn : xs.length = n) (hb : n ≤ 1000000) {h : AH} {s : Value} (h0 : h.sees 0 = true) (r : Rd h s n (rows eT xs)) :
    Fc Try.prog 86 [s, .func (.func 85) #[] #[]] h (.bool (xs.any fun t => !tltB t)) h := by
  refine Fc.lift1 (mk := fun ss => ss ++ [.func (.func 85) #[] #[]]) (mkv := fun _ => .bool (xs.any fun t => !tltB t)) (os := []) (fun c => ?_) (MkL.app rfl) (MkV.const rfl) (rows_no (f := eT) xs) (fun o ho => by cases ho) h0 r
  refine Fc.intro0 (h := mT (rows eT xs)) fn86 (by simp) rfl rfl ?_; simp only [argF, List.cons_append, List.nil_append]
  refine ITri.seq ?_
  refine ITri.reg pokT ?_; simp -implicitDefEqProofs (disch := first | decide | exact of_eq_true (eq_true rfl) | omega | assumption) only [ ↓vcD, vcE, evs, evP, evB, intsOf, fillC, Value.cells, pt, List.append_nil, List.nil_append, List.cons_append, List.length_cons, List.length_nil, List.filter_nil, List.map_nil, ↓List.getElem?_cons_zero, ↓List.getElem?_cons_succ, List.getElem?_cons_zero, List.getElem?_cons_succ, List.set_cons_zero, List.set_cons_succ, Option.join_some, Option.join_none, Option.map_some, List.all_cons, List.all_nil, Value.oneCell', reduceIte, reduceCtorEq, Nat.reduceEqDiff, Nat.reduceAdd, Nat.reduceMul, Nat.reduceLT, Nat.reduceBEq, Nat.reduceLeDiff, Nat.reduceSub, List.size_toArray]
  refine ITri.seq ?_
  refine ITri.reg pokT ?_; simp -implicitDefEqProofs (disch := first | decide | exact of_eq_true (eq_true rfl) | omega | assumption) only [ ↓vcD, vcE, evs, evP, evB, intsOf, fillC, Value.cells, pt, List.append_nil, List.nil_append, List.cons_append, List.length_cons, List.length_nil, List.filter_nil, List.map_nil, ↓List.getElem?_cons_zero, ↓List.getElem?_cons_succ, List.getElem?_cons_zero, List.getElem?_cons_succ, List.set_cons_zero, List.set_cons_succ, Option.join_some, Option.join_none, Option.map_some, List.all_cons, List.all_nil, Value.oneCell', reduceIte, reduceCtorEq, Nat.reduceEqDiff, Nat.reduceAdd, Nat.reduceMul, Nat.reduceLT, Nat.reduceBEq, Nat.reduceLeDiff, Nat.reduceSub, List.size_toArray]
  refine ⟨_, _, indexT_f n xs hn hb (sees0 rfl (of_decide_eq_true rfl)) (Rd.hq rfl rfl), ?_⟩
  try simp -implicitDefEqProofs (disch := first | decide | exact of_eq_true (eq_true rfl) | omega | assumption) only [ ↓vcD, vcE, evs, evP, evB, intsOf, fillC, Value.cells, pt, List.append_nil, List.nil_append, List.cons_append, List.length_cons, List.length_nil, List.filter_nil, List.map_nil, ↓List.getElem?_cons_zero, ↓List.getElem?_cons_succ, List.getElem?_cons_zero, List.getElem?_cons_succ, List.set_cons_zero, List.set_cons_succ, Option.join_some, Option.join_none, Option.map_some, List.all_cons, List.all_nil, Value.oneCell', reduceIte, reduceCtorEq, Nat.reduceEqDiff, Nat.reduceAdd, Nat.reduceMul, Nat.reduceLT, Nat.reduceBEq, Nat.reduceLeDiff, Nat.reduceSub, List.size_toArray]
  refine ITri.ret ?_; exact EndR.plain (by simp) (by rfl) (by rw [idxT_any]; rfl) (by rfl)
/-- What checkTurn returns. -/
def ckT (l : List Tl) (tol : Int) : Int := if 10 < l.length then 5 else if l.length = 0 ∨ l.any (fun t => !tltB t) = true then 2 else if inT tol 0 36000 = true then 0 else 3
theorem checkTurn_f (n : Nat) (l : List Tl) (tol : Int) (hn : l.length = n) {h : AH} {s : Value} (h0 : h.sees 0 = true) (r : Rd h s n (rows eT l)) :
    Fc Try.prog 70 [s, .int .i64 tol] h (.int .i64 (ckT l tol)) h := by
  refine Fc.lift1 (mk := fun ss => ss ++ [.int .i64 tol]) (mkv := fun _ => .int .i64 (ckT l tol)) (os := []) (fun c => ?_) (MkL.app rfl) (MkV.const rfl) (rows_no (f := eT) l) (fun o ho => by cases ho) h0 r
  refine Fc.intro0 (h := mT (rows eT l)) fn70 (by simp) rfl rfl ?_; simp only [argF, List.cons_append, List.nil_append]
  refine ITri.seq ?_
  refine ITri.reg pokT ?_; simp -implicitDefEqProofs (disch := first | decide | exact of_eq_true (eq_true rfl) | omega | assumption) only [ ↓vcD, vcE, evs, evP, evB, intsOf, fillC, Value.cells, pt, List.append_nil, List.nil_append, List.cons_append, List.length_cons, List.length_nil, List.filter_nil, List.map_nil, ↓List.getElem?_cons_zero, ↓List.getElem?_cons_succ, List.getElem?_cons_zero, List.getElem?_cons_succ, List.set_cons_zero, List.set_cons_succ, Option.join_some, Option.join_none, Option.map_some, List.all_cons, List.all_nil, Value.oneCell', reduceIte, reduceCtorEq, Nat.reduceEqDiff, Nat.reduceAdd, Nat.reduceMul, Nat.reduceLT, Nat.reduceBEq, Nat.reduceLeDiff, Nat.reduceSub, List.size_toArray]
  refine ITri.seq ?_
  refine ITri.reg pokT ?_; simp -implicitDefEqProofs (disch := first | decide | exact of_eq_true (eq_true rfl) | omega | assumption) only [ ↓vcD, vcE, evs, evP, evB, intsOf, fillC, Value.cells, pt, List.append_nil, List.nil_append, List.cons_append, List.length_cons, List.length_nil, List.filter_nil, List.map_nil, ↓List.getElem?_cons_zero, ↓List.getElem?_cons_succ, List.getElem?_cons_zero, List.getElem?_cons_succ, List.set_cons_zero, List.set_cons_succ, Option.join_some, Option.join_none, Option.map_some, List.all_cons, List.all_nil, Value.oneCell', reduceIte, reduceCtorEq, Nat.reduceEqDiff, Nat.reduceAdd, Nat.reduceMul, Nat.reduceLT, Nat.reduceBEq, Nat.reduceLeDiff, Nat.reduceSub, List.size_toArray]
  refine ITri.seq ?_
  refine ITri.block ?_
  refine ITri.seq ?_
  by_cases g1 : (10 : Int) < n
  · refine ITri.reg pokT ?_; simp -implicitDefEqProofs (disch := first | decide | exact of_eq_true (eq_true rfl) | omega | assumption) only [g1, decide_true,  ↓vcD, vcE, evs, evP, evB, intsOf, fillC, Value.cells, pt, List.append_nil, List.nil_append, List.cons_append, List.length_cons, List.length_nil, List.filter_nil, List.map_nil, ↓List.getElem?_cons_zero, ↓List.getElem?_cons_succ, List.getElem?_cons_zero, List.getElem?_cons_succ, List.set_cons_zero, List.set_cons_succ, Option.join_some, Option.join_none, Option.map_some, List.all_cons, List.all_nil, Value.oneCell', reduceIte, reduceCtorEq, Nat.reduceEqDiff, Nat.reduceAdd, Nat.reduceMul, Nat.reduceLT, Nat.reduceBEq, Nat.reduceLeDiff, Nat.reduceSub, List.size_toArray]
    refine ITri.cond (v := true) rfl (fun _ => ?_) (fun h => by cases h)
    refine ITri.seq ?_
    refine ITri.reg pokT ?_; simp -implicitDefEqProofs (disch := first | decide | exact of_eq_true (eq_true rfl) | omega | assumption) only [ ↓vcD, vcE, evs, evP, evB, intsOf, fillC, Value.cells, pt, List.append_nil, List.nil_append, List.cons_append, List.length_cons, List.length_nil, List.filter_nil, List.map_nil, ↓List.getElem?_cons_zero, ↓List.getElem?_cons_succ, List.getElem?_cons_zero, List.getElem?_cons_succ, List.set_cons_zero, List.set_cons_succ, Option.join_some, Option.join_none, Option.map_some, List.all_cons, List.all_nil, Value.oneCell', reduceIte, reduceCtorEq, Nat.reduceEqDiff, Nat.reduceAdd, Nat.reduceMul, Nat.reduceLT, Nat.reduceBEq, Nat.reduceLeDiff, Nat.reduceSub, List.size_toArray]
    refine ITri.ret ?_; exact EndR.plain (by simp) (by rfl) (by unfold ckT; rw [if_pos (by omega)]; rfl) (by rfl)
  have e0 : ckT l tol = _ := if_neg (show ¬ 10 < l.length by omega)
  refine ITri.reg pokT ?_; simp -implicitDefEqProofs (disch := first | decide | exact of_eq_true (eq_true rfl) | omega | assumption) only [g1, decide_false,  ↓vcD, vcE, evs, evP, evB, intsOf, fillC, Value.cells, pt, List.append_nil, List.nil_append, List.cons_append, List.length_cons, List.length_nil, List.filter_nil, List.map_nil, ↓List.getElem?_cons_zero, ↓List.getElem?_cons_succ, List.getElem?_cons_zero, List.getElem?_cons_succ, List.set_cons_zero, List.set_cons_succ, Option.join_some, Option.join_none, Option.map_some, List.all_cons, List.all_nil, Value.oneCell', reduceIte, reduceCtorEq, Nat.reduceEqDiff, Nat.reduceAdd, Nat.reduceMul, Nat.reduceLT, Nat.reduceBEq, Nat.reduceLeDiff, Nat.reduceSub, List.size_toArray]
  refine ITri.cond (v := false) rfl (fun h => by cases h) (fun _ => ?_)
  refine ITri.seq ?_
  by_cases g2 : (n : Int) = 0
  · refine ITri.reg pokT ?_; simp -implicitDefEqProofs (disch := first | decide | exact of_eq_true (eq_true rfl) | omega | assumption) only [g2, decide_true,  ↓vcD, vcE, evs, evP, evB, intsOf, fillC, Value.cells, pt, List.append_nil, List.nil_append, List.cons_append, List.length_cons, List.length_nil, List.filter_nil, List.map_nil, ↓List.getElem?_cons_zero, ↓List.getElem?_cons_succ, List.getElem?_cons_zero, List.getElem?_cons_succ, List.set_cons_zero, List.set_cons_succ, Option.join_some, Option.join_none, Option.map_some, List.all_cons, List.all_nil, Value.oneCell', reduceIte, reduceCtorEq, Nat.reduceEqDiff, Nat.reduceAdd, Nat.reduceMul, Nat.reduceLT, Nat.reduceBEq, Nat.reduceLeDiff, Nat.reduceSub, List.size_toArray]
    refine ITri.cond (v := true) rfl (fun _ => ?_) (fun h => by cases h)
    refine ITri.seq ?_
    refine ITri.reg pokT ?_; simp -implicitDefEqProofs (disch := first | decide | exact of_eq_true (eq_true rfl) | omega | assumption) only [ ↓vcD, vcE, evs, evP, evB, intsOf, fillC, Value.cells, pt, List.append_nil, List.nil_append, List.cons_append, List.length_cons, List.length_nil, List.filter_nil, List.map_nil, ↓List.getElem?_cons_zero, ↓List.getElem?_cons_succ, List.getElem?_cons_zero, List.getElem?_cons_succ, List.set_cons_zero, List.set_cons_succ, Option.join_some, Option.join_none, Option.map_some, List.all_cons, List.all_nil, Value.oneCell', reduceIte, reduceCtorEq, Nat.reduceEqDiff, Nat.reduceAdd, Nat.reduceMul, Nat.reduceLT, Nat.reduceBEq, Nat.reduceLeDiff, Nat.reduceSub, List.size_toArray]
    refine ITri.ret ?_; exact EndR.plain (by simp) (by rfl) (by rw [e0, if_pos (.inl (by omega))]; rfl) (by rfl)
  refine ITri.reg pokT ?_; simp -implicitDefEqProofs (disch := first | decide | exact of_eq_true (eq_true rfl) | omega | assumption) only [g2, decide_false,  ↓vcD, vcE, evs, evP, evB, intsOf, fillC, Value.cells, pt, List.append_nil, List.nil_append, List.cons_append, List.length_cons, List.length_nil, List.filter_nil, List.map_nil, ↓List.getElem?_cons_zero, ↓List.getElem?_cons_succ, List.getElem?_cons_zero, List.getElem?_cons_succ, List.set_cons_zero, List.set_cons_succ, Option.join_some, Option.join_none, Option.map_some, List.all_cons, List.all_nil, Value.oneCell', reduceIte, reduceCtorEq, Nat.reduceEqDiff, Nat.reduceAdd, Nat.reduceMul, Nat.reduceLT, Nat.reduceBEq, Nat.reduceLeDiff, Nat.reduceSub, List.size_toArray]
  refine ⟨_, _, containsT_f n l hn (by omega) (sees0 rfl (of_decide_eq_true rfl)) (Rd.hq rfl rfl), ?_⟩
  cases g3 : l.any (fun t => !tltB t) with
  | true =>
    try simp -implicitDefEqProofs (disch := first | decide | exact of_eq_true (eq_true rfl) | omega | assumption) only [ ↓vcD, vcE, evs, evP, evB, intsOf, fillC, Value.cells, pt, List.append_nil, List.nil_append, List.cons_append, List.length_cons, List.length_nil, List.filter_nil, List.map_nil, ↓List.getElem?_cons_zero, ↓List.getElem?_cons_succ, List.getElem?_cons_zero, List.getElem?_cons_succ, List.set_cons_zero, List.set_cons_succ, Option.join_some, Option.join_none, Option.map_some, List.all_cons, List.all_nil, Value.oneCell', reduceIte, reduceCtorEq, Nat.reduceEqDiff, Nat.reduceAdd, Nat.reduceMul, Nat.reduceLT, Nat.reduceBEq, Nat.reduceLeDiff, Nat.reduceSub, List.size_toArray]
    refine ITri.cond (v := true) rfl (fun _ => ?_) (fun h => by cases h)
    refine ITri.seq ?_
    refine ITri.reg pokT ?_; simp -implicitDefEqProofs (disch := first | decide | exact of_eq_true (eq_true rfl) | omega | assumption) only [ ↓vcD, vcE, evs, evP, evB, intsOf, fillC, Value.cells, pt, List.append_nil, List.nil_append, List.cons_append, List.length_cons, List.length_nil, List.filter_nil, List.map_nil, ↓List.getElem?_cons_zero, ↓List.getElem?_cons_succ, List.getElem?_cons_zero, List.getElem?_cons_succ, List.set_cons_zero, List.set_cons_succ, Option.join_some, Option.join_none, Option.map_some, List.all_cons, List.all_nil, Value.oneCell', reduceIte, reduceCtorEq, Nat.reduceEqDiff, Nat.reduceAdd, Nat.reduceMul, Nat.reduceLT, Nat.reduceBEq, Nat.reduceLeDiff, Nat.reduceSub, List.size_toArray]
    refine ITri.ret ?_; exact EndR.plain (by simp) (by rfl) (by rw [e0, if_pos (.inr g3)]; rfl) (by rfl)
  | false =>
    try simp -implicitDefEqProofs (disch := first | decide | exact of_eq_true (eq_true rfl) | omega | assumption) only [ ↓vcD, vcE, evs, evP, evB, intsOf, fillC, Value.cells, pt, List.append_nil, List.nil_append, List.cons_append, List.length_cons, List.length_nil, List.filter_nil, List.map_nil, ↓List.getElem?_cons_zero, ↓List.getElem?_cons_succ, List.getElem?_cons_zero, List.getElem?_cons_succ, List.set_cons_zero, List.set_cons_succ, Option.join_some, Option.join_none, Option.map_some, List.all_cons, List.all_nil, Value.oneCell', reduceIte, reduceCtorEq, Nat.reduceEqDiff, Nat.reduceAdd, Nat.reduceMul, Nat.reduceLT, Nat.reduceBEq, Nat.reduceLeDiff, Nat.reduceSub, List.size_toArray]
    refine ITri.cond (v := false) rfl (fun h => by cases h) (fun _ => ?_)
    rw [if_neg (by rintro (h | h); omega; rw [g3] at h; cases h)] at e0
    refine ITri.seq ?_
    refine ITri.reg pokT ?_; simp -implicitDefEqProofs (disch := first | decide | exact of_eq_true (eq_true rfl) | omega | assumption) only [ ↓vcD, vcE, evs, evP, evB, intsOf, fillC, Value.cells, pt, List.append_nil, List.nil_append, List.cons_append, List.length_cons, List.length_nil, List.filter_nil, List.map_nil, ↓List.getElem?_cons_zero, ↓List.getElem?_cons_succ, List.getElem?_cons_zero, List.getElem?_cons_succ, List.set_cons_zero, List.set_cons_succ, Option.join_some, Option.join_none, Option.map_some, List.all_cons, List.all_nil, Value.oneCell', reduceIte, reduceCtorEq, Nat.reduceEqDiff, Nat.reduceAdd, Nat.reduceMul, Nat.reduceLT, Nat.reduceBEq, Nat.reduceLeDiff, Nat.reduceSub, List.size_toArray]
    refine ⟨_, _, withinT_f tol 0 36000 (sees0 rfl (of_decide_eq_true rfl)), ?_⟩
    cases g4 : inT tol 0 36000 with
    | false =>
      simp -implicitDefEqProofs (disch := first | decide | exact of_eq_true (eq_true rfl) | omega | assumption) only [g4,  ↓vcD, vcE, evs, evP, evB, intsOf, fillC, Value.cells, pt, List.append_nil, List.nil_append, List.cons_append, List.length_cons, List.length_nil, List.filter_nil, List.map_nil, ↓List.getElem?_cons_zero, ↓List.getElem?_cons_succ, List.getElem?_cons_zero, List.getElem?_cons_succ, List.set_cons_zero, List.set_cons_succ, Option.join_some, Option.join_none, Option.map_some, List.all_cons, List.all_nil, Value.oneCell', reduceIte, reduceCtorEq, Nat.reduceEqDiff, Nat.reduceAdd, Nat.reduceMul, Nat.reduceLT, Nat.reduceBEq, Nat.reduceLeDiff, Nat.reduceSub, List.size_toArray]
      refine ITri.cond (v := true) rfl (fun _ => ?_) (fun h => by cases h)
      refine ITri.seq ?_
      refine ITri.reg pokT ?_; simp -implicitDefEqProofs (disch := first | decide | exact of_eq_true (eq_true rfl) | omega | assumption) only [ ↓vcD, vcE, evs, evP, evB, intsOf, fillC, Value.cells, pt, List.append_nil, List.nil_append, List.cons_append, List.length_cons, List.length_nil, List.filter_nil, List.map_nil, ↓List.getElem?_cons_zero, ↓List.getElem?_cons_succ, List.getElem?_cons_zero, List.getElem?_cons_succ, List.set_cons_zero, List.set_cons_succ, Option.join_some, Option.join_none, Option.map_some, List.all_cons, List.all_nil, Value.oneCell', reduceIte, reduceCtorEq, Nat.reduceEqDiff, Nat.reduceAdd, Nat.reduceMul, Nat.reduceLT, Nat.reduceBEq, Nat.reduceLeDiff, Nat.reduceSub, List.size_toArray]
      refine ITri.ret ?_; exact EndR.plain (by simp) (by rfl) (by rw [e0, if_neg (by rw [g4]; simp)]; rfl) (by rfl)
    | true =>
      simp -implicitDefEqProofs (disch := first | decide | exact of_eq_true (eq_true rfl) | omega | assumption) only [g4,  ↓vcD, vcE, evs, evP, evB, intsOf, fillC, Value.cells, pt, List.append_nil, List.nil_append, List.cons_append, List.length_cons, List.length_nil, List.filter_nil, List.map_nil, ↓List.getElem?_cons_zero, ↓List.getElem?_cons_succ, List.getElem?_cons_zero, List.getElem?_cons_succ, List.set_cons_zero, List.set_cons_succ, Option.join_some, Option.join_none, Option.map_some, List.all_cons, List.all_nil, Value.oneCell', reduceIte, reduceCtorEq, Nat.reduceEqDiff, Nat.reduceAdd, Nat.reduceMul, Nat.reduceLT, Nat.reduceBEq, Nat.reduceLeDiff, Nat.reduceSub, List.size_toArray]
      refine ITri.cond (v := false) rfl (fun h => by cases h) (fun _ => ?_)
      refine ITri.skip ?_; simp only [SeqQ_normal, BlkQ_normal]
      refine ITri.seq ?_
      refine ITri.reg pokT ?_; simp -implicitDefEqProofs (disch := first | decide | exact of_eq_true (eq_true rfl) | omega | assumption) only [ ↓vcD, vcE, evs, evP, evB, intsOf, fillC, Value.cells, pt, List.append_nil, List.nil_append, List.cons_append, List.length_cons, List.length_nil, List.filter_nil, List.map_nil, ↓List.getElem?_cons_zero, ↓List.getElem?_cons_succ, List.getElem?_cons_zero, List.getElem?_cons_succ, List.set_cons_zero, List.set_cons_succ, Option.join_some, Option.join_none, Option.map_some, List.all_cons, List.all_nil, Value.oneCell', reduceIte, reduceCtorEq, Nat.reduceEqDiff, Nat.reduceAdd, Nat.reduceMul, Nat.reduceLT, Nat.reduceBEq, Nat.reduceLeDiff, Nat.reduceSub, List.size_toArray]
      refine ITri.ret ?_; exact EndR.plain (by simp) (by rfl) (by rw [e0, if_pos g4]; rfl) (by rfl)
theorem ck_ok {l : List Tl} {tol : Int} (h : ckT l tol = 0) : l.length ≤ 10 ∧ 1 ≤ l.length ∧ (∀ i, i < l.length → tltB (nth l i) = true) ∧ 0 ≤ tol ∧ tol ≤ 36000 := by
  unfold ckT at h
  split at h
  · cases h
  · rename_i h1
    split at h
    · cases h
    · rename_i h2
      split at h
      · rename_i h3
        have := inT_ok h3
        refine ⟨by omega, by omega, fun i hi => ?_, this.1, this.2⟩
        cases ht : tltB (nth l i) with
        | true => rfl
        | false =>
          refine absurd (Or.inr (List.any_eq_true.2 ⟨nth l i, nth_mem hi, by simp [ht]⟩)) h2
      · cases h
end Go.Proofs.Ytlkfcbdbieenhaa
