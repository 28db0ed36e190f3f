/-
  Chapter 7, turns, by names: tilts, squares, the first setting.
-/
import Derived.Test.YtlkfcbdbieenhaaCropT1
import Derived.Test.YtlkfcbdbieenhaaCropT2
set_option linter.unusedSimpArgs false
set_option linter.unusedVariables false
namespace Go.Proofs.Ytlkfcbdbieenhaa
open Go.RowKit Go.Vm
set_option maxRecDepth 100000
/- boule/crop.within · slots 15 · names 0:n 1:least 2:most 3:n 4:least 5:most · results [6] -/
def ir57_r0 : IC := .reg [⟨some 6, none, false, .mv (.k (.bool false))⟩] (some [0, 1, 2])
def ir57_r1 : IC := .reg [⟨some 7, none, false, .mv (.t 0)⟩,
  ⟨some 8, none, false, .mv (.t 1)⟩,
  ⟨some 9, none, false, .cmp .geq (.t 7) (.t 8)⟩,
  ⟨some 10, none, false, .mv (.t 9)⟩,
  ⟨some 11, some (10, true), false, .mv (.t 0)⟩,
  ⟨some 12, some (10, true), false, .mv (.t 2)⟩,
  ⟨some 13, some (10, true), false, .cmp .leq (.t 11) (.t 12)⟩,
  ⟨some 14, none, false, .pick (.t 10) (.t 13) (.k (.bool false))⟩,
  ⟨some 6, none, false, .mv (.t 14)⟩] (some [6])
def ir57_1 : IC := .seq ir57_r1 .ret
def ir57_2 : IC := .seq ir57_r0 ir57_1
def ir57 : IC := ir57_2
theorem fn57 : FnIs Try.prog 57 ir57 15 [.tmp 6] := ⟨Try.f57, Try.f57.body.getD .skip, Try.func57, by kernel_rfl, by kernel_rfl, by kernel_rfl, by kernel_rfl⟩
/- boule/crop.isAngles · slots 18 · names 0:r 1:r · results [2] -/
def ir84_r0 : IC := .reg [⟨some 1, none, false, .box (.t 0)⟩,
  ⟨some 2, none, false, .mv (.k (.bool false))⟩] (some [1])
def ir84_r1 : IC := .reg [⟨some 3, none, false, .fad 0 (.t 1)⟩,
  ⟨some 4, none, false, .ldc (.t 3)⟩,
  ⟨some 5, none, false, .cmp .leq (.k (.int .i64 (-36000))) (.t 4)⟩,
  ⟨some 6, none, false, .mv (.t 5)⟩,
  ⟨some 7, some (6, true), false, .fad 0 (.t 1)⟩,
  ⟨some 8, some (6, true), false, .ldc (.t 7)⟩,
  ⟨some 9, some (6, true), false, .fad 1 (.t 1)⟩,
  ⟨some 10, some (6, true), false, .ldc (.t 9)⟩,
  ⟨some 11, some (6, true), false, .cmp .leq (.t 8) (.t 10)⟩,
  ⟨some 12, none, false, .pick (.t 6) (.t 11) (.k (.bool false))⟩,
  ⟨some 13, none, false, .mv (.t 12)⟩,
  ⟨some 14, some (13, true), false, .fad 1 (.t 1)⟩,
  ⟨some 15, some (13, true), false, .ldc (.t 14)⟩,
  ⟨some 16, some (13, true), false, .cmp .leq (.t 15) (.k (.int .i64 36000))⟩,
  ⟨some 17, none, false, .pick (.t 13) (.t 16) (.k (.bool false))⟩,
  ⟨some 2, none, false, .mv (.t 17)⟩] (some [2])
def ir84_1 : IC := .seq ir84_r1 .ret
def ir84_2 : IC := .seq ir84_r0 ir84_1
def ir84 : IC := ir84_2
theorem fn84 : FnIs Try.prog 84 ir84 18 [.tmp 2] := ⟨Try.f84, Try.f84.body.getD .skip, Try.func84, by kernel_rfl, by kernel_rfl, by kernel_rfl, by kernel_rfl⟩
/- boule/crop.isTilt · slots 11 · names 0:t 1:t · results [2] -/
def ir67_r0 : IC := .reg [⟨some 1, none, false, .box (.t 0)⟩,
  ⟨some 2, none, false, .mv (.k (.bool false))⟩] (some [1])
def ir67_r1 : IC := .reg [⟨some 3, none, false, .fad 0 (.t 1)⟩,
  ⟨some 4, none, false, .lda 2 (.t 3)⟩,
  ⟨some 5, none, false, .call (.f 84) [(.t 4)]⟩,
  ⟨some 6, none, false, .mv (.t 5)⟩,
  ⟨some 7, some (6, true), false, .fad 2 (.t 1)⟩,
  ⟨some 8, some (6, true), false, .lda 2 (.t 7)⟩,
  ⟨some 9, some (6, true), false, .call (.f 84) [(.t 8)]⟩,
  ⟨some 10, none, false, .pick (.t 6) (.t 9) (.k (.bool false))⟩,
  ⟨some 2, none, false, .mv (.t 10)⟩] (some [2])
def ir67_1 : IC := .seq ir67_r1 .ret
def ir67_2 : IC := .seq ir67_r0 ir67_1
def ir67 : IC := ir67_2
theorem fn67 : FnIs Try.prog 67 ir67 11 [.tmp 2] := ⟨Try.f67, Try.f67.body.getD .skip, Try.func67, by kernel_rfl, by kernel_rfl, by kernel_rfl, by kernel_rfl⟩
/- boule/crop.away · slots 24 · names 0:r 1:by 2:r 3:by 5:low 6:high · results [4] -/
def ir68_r0 : IC := .reg [⟨some 2, none, false, .box (.t 0)⟩,
  ⟨some 4, none, false, .alloc [(.int .i64 0), (.int .i64 0)]⟩] (some [1, 2, 4])
def ir68_r1 : IC := .draw [(⟨some 7, none, false, .fad 0 (.t 2)⟩, false, 0, 0),
  (⟨some 8, none, false, .ldc (.t 7)⟩, false, 1, 1),
  (⟨some 9, none, false, .mv (.t 1)⟩, false, 0, 0),
  (⟨some 10, none, false, .ar .add (.t 8) (.t 9)⟩, false, 7, 0),
  (⟨some 11, none, false, .fad 1 (.t 2)⟩, false, 0, 0),
  (⟨some 12, none, false, .ldc (.t 11)⟩, false, 16, 2),
  (⟨some 13, none, false, .mv (.t 1)⟩, false, 0, 0),
  (⟨some 14, none, false, .ar .add (.t 12) (.t 13)⟩, false, 112, 0),
  (⟨some 5, none, false, .mv (.t 10)⟩, false, 15, 0),
  (⟨some 6, none, false, .mv (.t 14)⟩, false, 511, 0)] (some [4, 5, 6])
def ir68_r2 : IC := .reg [⟨some 15, none, false, .mv (.t 5)⟩,
  ⟨some 16, none, false, .mv (.t 6)⟩,
  ⟨some 17, none, false, .neg (.t 16)⟩,
  ⟨some 18, none, false, .mm false [(.k (.int .i64 0)), (.t 15), (.t 17)]⟩,
  ⟨some 19, none, false, .mv (.t 6)⟩,
  ⟨some 20, none, false, .mv (.t 5)⟩,
  ⟨some 21, none, false, .neg (.t 20)⟩,
  ⟨some 22, none, false, .mm false [(.t 19), (.t 21)]⟩,
  ⟨some 23, none, false, .bld [(.int .i64 0), (.int .i64 0)] [(0, 1, (.t 18)), (1, 1, (.t 22))]⟩,
  ⟨none, none, false, .st 2 (.t 4) (.t 23)⟩] (some [4])
def ir68_1 : IC := .seq ir68_r2 .ret
def ir68_2 : IC := .seq ir68_r1 ir68_1
def ir68_3 : IC := .seq ir68_r0 ir68_2
def ir68 : IC := ir68_3
theorem fn68 : FnIs Try.prog 68 ir68 24 [.cell 4 38] := ⟨Try.f68, Try.f68.body.getD .skip, Try.func68, by kernel_rfl, by kernel_rfl, by kernel_rfl, by kernel_rfl⟩
/- boule/bouleref07.Tilt · slots 43 · names 0:t 1:t · results [2] -/
def ir37_r0 : IC := .reg [⟨some 1, none, false, .box (.t 0)⟩,
  ⟨some 2, none, false, .mv (.k (.bool false))⟩] (some [1])
def ir37_r1 : IC := .reg [⟨some 3, none, false, .fad 0 (.t 1)⟩,
  ⟨some 4, none, false, .fad 0 (.t 3)⟩,
  ⟨some 5, none, false, .ldc (.t 4)⟩,
  ⟨some 6, none, false, .cmp .geq (.t 5) (.k (.int .i64 (-36000)))⟩,
  ⟨some 7, none, false, .mv (.t 6)⟩,
  ⟨some 8, some (7, true), false, .fad 0 (.t 1)⟩,
  ⟨some 9, some (7, true), false, .fad 0 (.t 8)⟩,
  ⟨some 10, some (7, true), false, .ldc (.t 9)⟩,
  ⟨some 11, some (7, true), false, .fad 0 (.t 1)⟩,
  ⟨some 12, some (7, true), false, .fad 1 (.t 11)⟩,
  ⟨some 13, some (7, true), false, .ldc (.t 12)⟩,
  ⟨some 14, some (7, true), false, .cmp .leq (.t 10) (.t 13)⟩,
  ⟨some 15, none, false, .pick (.t 7) (.t 14) (.k (.bool false))⟩,
  ⟨some 16, none, false, .mv (.t 15)⟩,
  ⟨some 17, some (16, true), false, .fad 0 (.t 1)⟩,
  ⟨some 18, some (16, true), false, .fad 1 (.t 17)⟩,
  ⟨some 19, some (16, true), false, .ldc (.t 18)⟩,
  ⟨some 20, some (16, true), false, .cmp .leq (.t 19) (.k (.int .i64 36000))⟩,
  ⟨some 21, none, false, .pick (.t 16) (.t 20) (.k (.bool false))⟩,
  ⟨some 22, none, false, .mv (.t 21)⟩,
  ⟨some 23, some (22, true), false, .fad 2 (.t 1)⟩,
  ⟨some 24, some (22, true), false, .fad 0 (.t 23)⟩,
  ⟨some 25, some (22, true), false, .ldc (.t 24)⟩,
  ⟨some 26, some (22, true), false, .cmp .geq (.t 25) (.k (.int .i64 (-36000)))⟩,
  ⟨some 27, none, false, .pick (.t 22) (.t 26) (.k (.bool false))⟩,
  ⟨some 28, none, false, .mv (.t 27)⟩,
  ⟨some 29, some (28, true), false, .fad 2 (.t 1)⟩,
  ⟨some 30, some (28, true), false, .fad 0 (.t 29)⟩,
  ⟨some 31, some (28, true), false, .ldc (.t 30)⟩,
  ⟨some 32, some (28, true), false, .fad 2 (.t 1)⟩,
  ⟨some 33, some (28, true), false, .fad 1 (.t 32)⟩,
  ⟨some 34, some (28, true), false, .ldc (.t 33)⟩,
  ⟨some 35, some (28, true), false, .cmp .leq (.t 31) (.t 34)⟩,
  ⟨some 36, none, false, .pick (.t 28) (.t 35) (.k (.bool false))⟩,
  ⟨some 37, none, false, .mv (.t 36)⟩,
  ⟨some 38, some (37, true), false, .fad 2 (.t 1)⟩,
  ⟨some 39, some (37, true), false, .fad 1 (.t 38)⟩,
  ⟨some 40, some (37, true), false, .ldc (.t 39)⟩,
  ⟨some 41, some (37, true), false, .cmp .leq (.t 40) (.k (.int .i64 36000))⟩,
  ⟨some 42, none, false, .pick (.t 37) (.t 41) (.k (.bool false))⟩,
  ⟨some 2, none, false, .mv (.t 42)⟩] (some [2])
def ir37_1 : IC := .seq ir37_r1 .ret
def ir37_2 : IC := .seq ir37_r0 ir37_1
def ir37 : IC := ir37_2
theorem fn37 : FnIs Try.prog 37 ir37 43 [.tmp 2] := ⟨Try.f37, Try.f37.body.getD .skip, Try.func37, by kernel_rfl, by kernel_rfl, by kernel_rfl, by kernel_rfl⟩
/- boule/bouleref07.abs · slots 7 · names 0:n 1:n · results [2] -/
def ir69_r0 : IC := .reg [⟨some 2, none, false, .mv (.k (.int .i64 0))⟩] (some [0])
def ir69_r1 : IC := .reg [⟨some 3, none, false, .mv (.t 0)⟩,
  ⟨some 4, none, false, .mv (.t 0)⟩,
  ⟨some 5, none, false, .neg (.t 4)⟩,
  ⟨some 6, none, false, .mm false [(.t 3), (.t 5)]⟩,
  ⟨some 2, none, false, .mv (.t 6)⟩] (some [2])
def ir69_1 : IC := .seq ir69_r1 .ret
def ir69_2 : IC := .seq ir69_r0 ir69_1
def ir69 : IC := ir69_2
theorem fn69 : FnIs Try.prog 69 ir69 7 [.tmp 2] := ⟨Try.f69, Try.f69.body.getD .skip, Try.func69, by kernel_rfl, by kernel_rfl, by kernel_rfl, by kernel_rfl⟩
/- boule/bouleref07.Least · slots 28 · names 0:r 1:by 2:r 3:by · results [4] -/
def ir38_r0 : IC := .reg [⟨some 2, none, false, .box (.t 0)⟩,
  ⟨some 4, none, false, .mv (.k (.int .i64 0))⟩] (some [1, 2])
def ir38_r1 : IC := .reg [⟨some 5, none, false, .fad 0 (.t 2)⟩,
  ⟨some 6, none, false, .ldc (.t 5)⟩,
  ⟨some 7, none, false, .mv (.t 1)⟩,
  ⟨some 8, none, false, .neg (.t 7)⟩,
  ⟨some 9, none, false, .cmp .leq (.t 6) (.t 8)⟩,
  ⟨some 10, none, false, .mv (.t 9)⟩,
  ⟨some 11, some (10, true), false, .mv (.t 1)⟩,
  ⟨some 12, some (10, true), false, .neg (.t 11)⟩,
  ⟨some 13, some (10, true), false, .fad 1 (.t 2)⟩,
  ⟨some 14, some (10, true), false, .ldc (.t 13)⟩,
  ⟨some 15, some (10, true), false, .cmp .leq (.t 12) (.t 14)⟩,
  ⟨some 16, none, false, .pick (.t 10) (.t 15) (.k (.bool false))⟩] (some [1, 2, 16])
def ir38_r2 : IC := .reg [⟨some 4, none, false, .mv (.k (.int .i64 0))⟩] (some [4])
def ir38_1 : IC := .seq ir38_r2 .ret
def ir38_2 : IC := .cond (.t 16) ir38_1 .skip
def ir38_3 : IC := .seq ir38_r1 ir38_2
def ir38_r3 : IC := .draw [(⟨some 17, none, false, .fad 0 (.t 2)⟩, false, 0, 0),
  (⟨some 18, none, false, .ldc (.t 17)⟩, false, 1, 1),
  (⟨some 19, none, false, .mv (.t 1)⟩, false, 0, 0),
  (⟨some 20, none, false, .ar .add (.t 18) (.t 19)⟩, false, 7, 0),
  (⟨some 21, none, false, .call (.f 69) [(.t 20)]⟩, false, 15, 1),
  (⟨some 22, none, false, .fad 1 (.t 2)⟩, false, 0, 0),
  (⟨some 23, none, false, .ldc (.t 22)⟩, false, 32, 16),
  (⟨some 24, none, false, .mv (.t 1)⟩, false, 0, 0),
  (⟨some 25, none, false, .ar .add (.t 23) (.t 24)⟩, false, 224, 0),
  (⟨some 26, none, false, .call (.f 69) [(.t 25)]⟩, true, 511, 1),
  (⟨some 27, none, false, .mm true [(.t 21), (.t 26)]⟩, false, 1023, 0),
  (⟨some 4, none, false, .mv (.t 27)⟩, false, 2047, 0)] (some [4])
def ir38_4 : IC := .seq ir38_r3 .ret
def ir38_5 : IC := .seq ir38_3 ir38_4
def ir38_6 : IC := .seq ir38_r0 ir38_5
def ir38 : IC := ir38_6
theorem fn38 : FnIs Try.prog 38 ir38 28 [.tmp 4] := ⟨Try.f38, Try.f38.body.getD .skip, Try.func38, by kernel_rfl, by kernel_rfl, by kernel_rfl, by kernel_rfl⟩
/- boule/bouleref07.Most · slots 16 · names 0:r 1:by 2:r 3:by · results [4] -/
def ir39_r0 : IC := .reg [⟨some 2, none, false, .box (.t 0)⟩,
  ⟨some 4, none, false, .mv (.k (.int .i64 0))⟩] (some [1, 2])
def ir39_r1 : IC := .draw [(⟨some 5, none, false, .fad 0 (.t 2)⟩, false, 0, 0),
  (⟨some 6, none, false, .ldc (.t 5)⟩, false, 1, 1),
  (⟨some 7, none, false, .mv (.t 1)⟩, false, 0, 0),
  (⟨some 8, none, false, .ar .add (.t 6) (.t 7)⟩, false, 7, 0),
  (⟨some 9, none, false, .call (.f 69) [(.t 8)]⟩, false, 15, 1),
  (⟨some 10, none, false, .fad 1 (.t 2)⟩, false, 0, 0),
  (⟨some 11, none, false, .ldc (.t 10)⟩, false, 32, 16),
  (⟨some 12, none, false, .mv (.t 1)⟩, false, 0, 0),
  (⟨some 13, none, false, .ar .add (.t 11) (.t 12)⟩, false, 224, 0),
  (⟨some 14, none, false, .call (.f 69) [(.t 13)]⟩, true, 511, 1),
  (⟨some 15, none, false, .mm false [(.t 9), (.t 14)]⟩, false, 1023, 0),
  (⟨some 4, none, false, .mv (.t 15)⟩, false, 2047, 0)] (some [4])
def ir39_1 : IC := .seq ir39_r1 .ret
def ir39_2 : IC := .seq ir39_r0 ir39_1
def ir39 : IC := ir39_2
theorem fn39 : FnIs Try.prog 39 ir39 16 [.tmp 4] := ⟨Try.f39, Try.f39.body.getD .skip, Try.func39, by kernel_rfl, by kernel_rfl, by kernel_rfl, by kernel_rfl⟩
/- boule/crop.Off · slots 46 · names 0:t 1:x 2:t 3:x 6:a 7:b · results [4, 5] -/
def ir36_r0 : IC := .reg [⟨some 2, none, false, .box (.t 0)⟩,
  ⟨some 3, none, false, .box (.t 1)⟩,
  ⟨some 4, none, false, .alloc [(.int .i64 0), (.int .i64 0)]⟩,
  ⟨some 5, none, false, .mv (.k (.int .i64 0))⟩] (some [2, 3, 4])
def ir36_r1 : IC := .reg [⟨some 9, none, false, .lda 4 (.t 2)⟩,
  ⟨some 10, none, false, .call (.f 67) [(.t 9)]⟩,
  ⟨some 11, none, false, .not (.t 10)⟩,
  ⟨some 8, none, false, .mv (.t 11)⟩] (some [2, 3, 4, 8])
def ir36_r2 : IC := .reg [⟨some 12, none, false, .bld [(.int .i64 0), (.int .i64 0)] []⟩,
  ⟨none, none, false, .st 2 (.t 4) (.t 12)⟩,
  ⟨some 5, none, false, .mv (.k (.int .i64 2))⟩] (some [4, 5])
def ir36_1 : IC := .seq ir36_r2 .ret
def ir36_r3 : IC := .reg [⟨some 14, none, false, .fad 0 (.t 3)⟩,
  ⟨some 15, none, false, .ldc (.t 14)⟩,
  ⟨some 16, none, false, .call (.f 57) [(.t 15), (.k (.int .i64 (-144000))), (.k (.int .i64 144000))]⟩,
  ⟨some 17, none, false, .not (.t 16)⟩,
  ⟨some 18, none, false, .mv (.t 17)⟩,
  ⟨some 19, some (18, false), false, .fad 1 (.t 3)⟩,
  ⟨some 20, some (18, false), false, .ldc (.t 19)⟩,
  ⟨some 21, some (18, false), false, .call (.f 57) [(.t 20), (.k (.int .i64 (-144000))), (.k (.int .i64 144000))]⟩,
  ⟨some 22, some (18, false), false, .not (.t 21)⟩,
  ⟨some 23, none, false, .pick (.t 18) (.k (.bool true)) (.t 22)⟩,
  ⟨some 13, none, false, .mv (.t 23)⟩] (some [2, 3, 4, 13])
def ir36_r4 : IC := .reg [⟨some 24, none, false, .bld [(.int .i64 0), (.int .i64 0)] []⟩,
  ⟨none, none, false, .st 2 (.t 4) (.t 24)⟩,
  ⟨some 5, none, false, .mv (.k (.int .i64 3))⟩] (some [4, 5])
def ir36_2 : IC := .seq ir36_r4 .ret
def ir36_3 : IC := .cond (.t 13) ir36_2 .skip
def ir36_4 : IC := .seq ir36_r3 ir36_3
def ir36_5 : IC := .cond (.t 8) ir36_1 ir36_4
def ir36_6 : IC := .seq ir36_r1 ir36_5
def ir36_7 : IC := .block 0 ir36_6
def ir36_r5 : IC := .draw [(⟨some 25, none, false, .fad 0 (.t 2)⟩, false, 0, 0),
  (⟨some 26, none, false, .lda 2 (.t 25)⟩, false, 1, 1),
  (⟨some 27, none, false, .fad 0 (.t 3)⟩, false, 0, 0),
  (⟨some 28, none, false, .ldc (.t 27)⟩, false, 4, 2),
  (⟨some 29, none, false, .call (.f 68) [(.t 26), (.t 28)]⟩, false, 15, 1),
  (⟨some 30, none, false, .fad 2 (.t 2)⟩, false, 0, 0),
  (⟨some 31, none, false, .lda 2 (.t 30)⟩, false, 32, 16),
  (⟨some 32, none, false, .fad 1 (.t 3)⟩, false, 0, 0),
  (⟨some 33, none, false, .ldc (.t 32)⟩, false, 128, 48),
  (⟨some 34, none, false, .call (.f 68) [(.t 31), (.t 33)]⟩, false, 511, 1),
  (⟨some 6, none, false, .alloc [(.int .i64 0), (.int .i64 0)]⟩, false, 0, 512),
  (⟨some 7, none, false, .alloc [(.int .i64 0), (.int .i64 0)]⟩, false, 0, 512),
  (⟨none, none, false, .st 2 (.t 6) (.t 29)⟩, true, 4095, 1),
  (⟨none, none, false, .st 2 (.t 7) (.t 34)⟩, true, 8191, 1)] (some [4, 6, 7])
def ir36_r6 : IC := .reg [⟨some 35, none, false, .fad 0 (.t 6)⟩,
  ⟨some 36, none, false, .ldc (.t 35)⟩,
  ⟨some 37, none, false, .fad 0 (.t 7)⟩,
  ⟨some 38, none, false, .ldc (.t 37)⟩,
  ⟨some 39, none, false, .ar .add (.t 36) (.t 38)⟩,
  ⟨some 40, none, false, .fad 1 (.t 6)⟩,
  ⟨some 41, none, false, .ldc (.t 40)⟩,
  ⟨some 42, none, false, .fad 1 (.t 7)⟩,
  ⟨some 43, none, false, .ldc (.t 42)⟩,
  ⟨some 44, none, false, .ar .add (.t 41) (.t 43)⟩,
  ⟨some 45, none, false, .bld [(.int .i64 0), (.int .i64 0)] [(0, 1, (.t 39)), (1, 1, (.t 44))]⟩,
  ⟨none, none, false, .st 2 (.t 4) (.t 45)⟩,
  ⟨some 5, none, false, .mv (.k (.int .i64 0))⟩] (some [4, 5])
def ir36_8 : IC := .seq ir36_r6 .ret
def ir36_9 : IC := .seq ir36_r5 ir36_8
def ir36_10 : IC := .seq ir36_7 ir36_9
def ir36_11 : IC := .seq ir36_r0 ir36_10
def ir36 : IC := ir36_11
theorem fn36 : FnIs Try.prog 36 ir36 46 [.cell 4 38, .tmp 5] := ⟨Try.f36, Try.f36.body.getD .skip, Try.func36, by kernel_rfl, by kernel_rfl, by kernel_rfl, by kernel_rfl⟩
/- boule/bouleref07.Suits · slots 20 · names 0:t 1:x 2:tolerance 3:t 4:x 5:tolerance · results [6] -/
def ir75_r0 : IC := .reg [⟨some 3, none, false, .box (.t 0)⟩,
  ⟨some 4, none, false, .box (.t 1)⟩,
  ⟨some 6, none, false, .mv (.k (.bool false))⟩] (some [2, 3, 4])
def ir75_r1 : IC := .draw [(⟨some 7, none, false, .fad 0 (.t 3)⟩, false, 0, 0),
  (⟨some 8, none, false, .lda 2 (.t 7)⟩, false, 1, 1),
  (⟨some 9, none, false, .fad 0 (.t 4)⟩, false, 0, 0),
  (⟨some 10, none, false, .ldc (.t 9)⟩, false, 4, 2),
  (⟨some 11, none, false, .call (.f 39) [(.t 8), (.t 10)]⟩, false, 15, 1),
  (⟨some 12, none, false, .fad 2 (.t 3)⟩, false, 0, 0),
  (⟨some 13, none, false, .lda 2 (.t 12)⟩, false, 32, 16),
  (⟨some 14, none, false, .fad 1 (.t 4)⟩, false, 0, 0),
  (⟨some 15, none, false, .ldc (.t 14)⟩, false, 128, 48),
  (⟨some 16, none, false, .call (.f 39) [(.t 13), (.t 15)]⟩, true, 511, 1),
  (⟨some 17, none, false, .ar .add (.t 11) (.t 16)⟩, false, 1023, 0),
  (⟨some 18, none, false, .mv (.t 2)⟩, false, 0, 0),
  (⟨some 19, none, false, .cmp .leq (.t 17) (.t 18)⟩, false, 4095, 0),
  (⟨some 6, none, false, .mv (.t 19)⟩, false, 8191, 0)] (some [6])
def ir75_1 : IC := .seq ir75_r1 .ret
def ir75_2 : IC := .seq ir75_r0 ir75_1
def ir75 : IC := ir75_2
theorem fn75 : FnIs Try.prog 75 ir75 20 [.tmp 6] := ⟨Try.f75, Try.f75.body.getD .skip, Try.func75, by kernel_rfl, by kernel_rfl, by kernel_rfl, by kernel_rfl⟩
theorem withinT_f (n a b : Int) {h : AH} (hs : h.sees 0 = true) : Fc Try.prog 57 [.int .i64 n, .int .i64 a, .int .i64 b] h (.bool (inT n a b)) h := by
  refine Fc.lift0 ?_ rfl rfl hs
  refine Fc.intro0 fn57 (by simp) rfl rfl ?_; simp only [argF]
  refine ITri.seq ?_
  refine ITri.reg pokT ?_; simp -implicitDefEqProofs (disch := first | decide | exact of_eq_true (eq_true rfl) | omega | assumption) only [ ↓vcD, vcE, evs, evP, evB, intsOf, fillC, Value.cells, pt, List.append_nil, List.nil_append, List.cons_append, List.length_cons, List.length_nil, List.filter_nil, List.map_nil, ↓List.getElem?_cons_zero, ↓List.getElem?_cons_succ, List.getElem?_cons_zero, List.getElem?_cons_succ, List.set_cons_zero, List.set_cons_succ, Option.join_some, Option.join_none, Option.map_some, List.all_cons, List.all_nil, Value.oneCell', reduceIte, reduceCtorEq, Nat.reduceEqDiff, Nat.reduceAdd, Nat.reduceMul, Nat.reduceLT, Nat.reduceBEq, Nat.reduceLeDiff, Nat.reduceSub, List.size_toArray]
  refine ITri.seq ?_
  by_cases g : a ≤ n
  · refine ITri.reg pokT ?_; simp -implicitDefEqProofs (disch := first | decide | exact of_eq_true (eq_true rfl) | omega | assumption) only [g, decide_true,  ↓vcD, vcE, evs, evP, evB, intsOf, fillC, Value.cells, pt, List.append_nil, List.nil_append, List.cons_append, List.length_cons, List.length_nil, List.filter_nil, List.map_nil, ↓List.getElem?_cons_zero, ↓List.getElem?_cons_succ, List.getElem?_cons_zero, List.getElem?_cons_succ, List.set_cons_zero, List.set_cons_succ, Option.join_some, Option.join_none, Option.map_some, List.all_cons, List.all_nil, Value.oneCell', reduceIte, reduceCtorEq, Nat.reduceEqDiff, Nat.reduceAdd, Nat.reduceMul, Nat.reduceLT, Nat.reduceBEq, Nat.reduceLeDiff, Nat.reduceSub, List.size_toArray]
    refine ITri.ret ?_; exact EndR.plain (by simp) (by rfl) (by unfold inT; rw [decide_eq_true g]; rfl) (by rfl)
  · refine ITri.reg pokT ?_; simp -implicitDefEqProofs (disch := first | decide | exact of_eq_true (eq_true rfl) | omega | assumption) only [g, decide_false,  ↓vcD, vcE, evs, evP, evB, intsOf, fillC, Value.cells, pt, List.append_nil, List.nil_append, List.cons_append, List.length_cons, List.length_nil, List.filter_nil, List.map_nil, ↓List.getElem?_cons_zero, ↓List.getElem?_cons_succ, List.getElem?_cons_zero, List.getElem?_cons_succ, List.set_cons_zero, List.set_cons_succ, Option.join_some, Option.join_none, Option.map_some, List.all_cons, List.all_nil, Value.oneCell', reduceIte, reduceCtorEq, Nat.reduceEqDiff, Nat.reduceAdd, Nat.reduceMul, Nat.reduceLT, Nat.reduceBEq, Nat.reduceLeDiff, Nat.reduceSub, List.size_toArray]
    refine ITri.ret ?_; exact EndR.plain (by simp) (by rfl) (by unfold inT; rw [decide_eq_false g]; rfl) (by rfl)
theorem isAngles_f (l k : Int) {h : AH} (hs : h.sees 0 = true) : Fc Try.prog 84 [.agg #[.int .i64 l, .int .i64 k]] h (.bool (angB l k)) h := by
  refine Fc.lift0 ?_ rfl rfl hs
  refine Fc.intro0 fn84 (by simp) rfl rfl ?_; simp only [argF]
  refine ITri.seq ?_
  refine ITri.reg pokT ?_; simp -implicitDefEqProofs (disch := first | decide | exact of_eq_true (eq_true rfl) | omega | assumption) only [ ↓vcD, vcE, evs, evP, evB, intsOf, fillC, Value.cells, pt, List.append_nil, List.nil_append, List.cons_append, List.length_cons, List.length_nil, List.filter_nil, List.map_nil, ↓List.getElem?_cons_zero, ↓List.getElem?_cons_succ, List.getElem?_cons_zero, List.getElem?_cons_succ, List.set_cons_zero, List.set_cons_succ, Option.join_some, Option.join_none, Option.map_some, List.all_cons, List.all_nil, Value.oneCell', reduceIte, reduceCtorEq, Nat.reduceEqDiff, Nat.reduceAdd, Nat.reduceMul, Nat.reduceLT, Nat.reduceBEq, Nat.reduceLeDiff, Nat.reduceSub, List.size_toArray]
  refine ITri.seq ?_
  by_cases g : -36000 ≤ l
  · by_cases g2 : l ≤ k
    · refine ITri.reg pokT ?_; simp -implicitDefEqProofs (disch := first | decide | exact of_eq_true (eq_true rfl) | omega | assumption) only [g, g2, decide_true,  ↓vcD, vcE, evs, evP, evB, intsOf, fillC, Value.cells, pt, List.append_nil, List.nil_append, List.cons_append, List.length_cons, List.length_nil, List.filter_nil, List.map_nil, ↓List.getElem?_cons_zero, ↓List.getElem?_cons_succ, List.getElem?_cons_zero, List.getElem?_cons_succ, List.set_cons_zero, List.set_cons_succ, Option.join_some, Option.join_none, Option.map_some, List.all_cons, List.all_nil, Value.oneCell', reduceIte, reduceCtorEq, Nat.reduceEqDiff, Nat.reduceAdd, Nat.reduceMul, Nat.reduceLT, Nat.reduceBEq, Nat.reduceLeDiff, Nat.reduceSub, List.size_toArray]
      refine ITri.ret ?_; exact EndR.plain (by simp) (by rfl) (by unfold angB; rw [decide_eq_true g, decide_eq_true g2]; rfl) (by rfl)
    · refine ITri.reg pokT ?_; simp -implicitDefEqProofs (disch := first | decide | exact of_eq_true (eq_true rfl) | omega | assumption) only [g, g2, decide_true, decide_false,  ↓vcD, vcE, evs, evP, evB, intsOf, fillC, Value.cells, pt, List.append_nil, List.nil_append, List.cons_append, List.length_cons, List.length_nil, List.filter_nil, List.map_nil, ↓List.getElem?_cons_zero, ↓List.getElem?_cons_succ, List.getElem?_cons_zero, List.getElem?_cons_succ, List.set_cons_zero, List.set_cons_succ, Option.join_some, Option.join_none, Option.map_some, List.all_cons, List.all_nil, Value.oneCell', reduceIte, reduceCtorEq, Nat.reduceEqDiff, Nat.reduceAdd, Nat.reduceMul, Nat.reduceLT, Nat.reduceBEq, Nat.reduceLeDiff, Nat.reduceSub, List.size_toArray]
      refine ITri.ret ?_; exact EndR.plain (by simp) (by rfl) (by unfold angB; rw [decide_eq_true g, decide_eq_false g2]; rfl) (by rfl)
  · refine ITri.reg pokT ?_; simp -implicitDefEqProofs (disch := first | decide | exact of_eq_true (eq_true rfl) | omega | assumption) only [g, decide_false,  ↓vcD, vcE, evs, evP, evB, intsOf, fillC, Value.cells, pt, List.append_nil, List.nil_append, List.cons_append, List.length_cons, List.length_nil, List.filter_nil, List.map_nil, ↓List.getElem?_cons_zero, ↓List.getElem?_cons_succ, List.getElem?_cons_zero, List.getElem?_cons_succ, List.set_cons_zero, List.set_cons_succ, Option.join_some, Option.join_none, Option.map_some, List.all_cons, List.all_nil, Value.oneCell', reduceIte, reduceCtorEq, Nat.reduceEqDiff, Nat.reduceAdd, Nat.reduceMul, Nat.reduceLT, Nat.reduceBEq, Nat.reduceLeDiff, Nat.reduceSub, List.size_toArray]
    refine ITri.ret ?_; exact EndR.plain (by simp) (by rfl) (by unfold angB; rw [decide_eq_false g]; rfl) (by rfl)
theorem isTilt_f (t : Tl) {h : AH} (hs : h.sees 0 = true) : Fc Try.prog 67 [tV t] h (.bool (tltB t)) h := by
  refine Fc.lift0 ?_ rfl rfl hs
  obtain ⟨xl, xh, yl, yh⟩ := t
  refine Fc.intro0 fn67 (by simp) rfl rfl ?_; simp only [argF]
  refine ITri.seq ?_
  refine ITri.reg pokT ?_; simp -implicitDefEqProofs (disch := first | decide | exact of_eq_true (eq_true rfl) | omega | assumption) only [ ↓vcD, vcE, evs, evP, evB, intsOf, fillC, Value.cells, pt, List.append_nil, List.nil_append, List.cons_append, List.length_cons, List.length_nil, List.filter_nil, List.map_nil, ↓List.getElem?_cons_zero, ↓List.getElem?_cons_succ, List.getElem?_cons_zero, List.getElem?_cons_succ, List.set_cons_zero, List.set_cons_succ, Option.join_some, Option.join_none, Option.map_some, List.all_cons, List.all_nil, Value.oneCell', reduceIte, reduceCtorEq, Nat.reduceEqDiff, Nat.reduceAdd, Nat.reduceMul, Nat.reduceLT, Nat.reduceBEq, Nat.reduceLeDiff, Nat.reduceSub, List.size_toArray]
  refine ITri.seq ?_
  refine ITri.reg pokT ?_; simp -implicitDefEqProofs (disch := first | decide | exact of_eq_true (eq_true rfl) | omega | assumption) only [ ↓vcD, vcE, evs, evP, evB, intsOf, fillC, Value.cells, pt, List.append_nil, List.nil_append, List.cons_append, List.length_cons, List.length_nil, List.filter_nil, List.map_nil, ↓List.getElem?_cons_zero, ↓List.getElem?_cons_succ, List.getElem?_cons_zero, List.getElem?_cons_succ, List.set_cons_zero, List.set_cons_succ, Option.join_some, Option.join_none, Option.map_some, List.all_cons, List.all_nil, Value.oneCell', reduceIte, reduceCtorEq, Nat.reduceEqDiff, Nat.reduceAdd, Nat.reduceMul, Nat.reduceLT, Nat.reduceBEq, Nat.reduceLeDiff, Nat.reduceSub, List.size_toArray]
  refine ⟨_, _, isAngles_f xl xh (sees0 rfl (of_decide_eq_true rfl)), ?_⟩
  cases g : angB xl xh with
  | false =>
    simp -implicitDefEqProofs (disch := first | decide | exact of_eq_true (eq_true rfl) | omega | assumption) only [g,  ↓vcD, vcE, evs, evP, evB, intsOf, fillC, Value.cells, pt, List.append_nil, List.nil_append, List.cons_append, List.length_cons, List.length_nil, List.filter_nil, List.map_nil, ↓List.getElem?_cons_zero, ↓List.getElem?_cons_succ, List.getElem?_cons_zero, List.getElem?_cons_succ, List.set_cons_zero, List.set_cons_succ, Option.join_some, Option.join_none, Option.map_some, List.all_cons, List.all_nil, Value.oneCell', reduceIte, reduceCtorEq, Nat.reduceEqDiff, Nat.reduceAdd, Nat.reduceMul, Nat.reduceLT, Nat.reduceBEq, Nat.reduceLeDiff, Nat.reduceSub, List.size_toArray]
    refine ITri.ret ?_; exact EndR.plain (by simp) (by rfl) (by unfold tltB; rw [g]; rfl) (by rfl)
  | true =>
    simp -implicitDefEqProofs (disch := first | decide | exact of_eq_true (eq_true rfl) | omega | assumption) only [g,  ↓vcD, vcE, evs, evP, evB, intsOf, fillC, Value.cells, pt, List.append_nil, List.nil_append, List.cons_append, List.length_cons, List.length_nil, List.filter_nil, List.map_nil, ↓List.getElem?_cons_zero, ↓List.getElem?_cons_succ, List.getElem?_cons_zero, List.getElem?_cons_succ, List.set_cons_zero, List.set_cons_succ, Option.join_some, Option.join_none, Option.map_some, List.all_cons, List.all_nil, Value.oneCell', reduceIte, reduceCtorEq, Nat.reduceEqDiff, Nat.reduceAdd, Nat.reduceMul, Nat.reduceLT, Nat.reduceBEq, Nat.reduceLeDiff, Nat.reduceSub, List.size_toArray]
    refine ⟨_, _, isAngles_f yl yh (sees0 rfl (of_decide_eq_true rfl)), ?_⟩
    try simp -implicitDefEqProofs (disch := first | decide | exact of_eq_true (eq_true rfl) | omega | assumption) only [ ↓vcD, vcE, evs, evP, evB, intsOf, fillC, Value.cells, pt, List.append_nil, List.nil_append, List.cons_append, List.length_cons, List.length_nil, List.filter_nil, List.map_nil, ↓List.getElem?_cons_zero, ↓List.getElem?_cons_succ, List.getElem?_cons_zero, List.getElem?_cons_succ, List.set_cons_zero, List.set_cons_succ, Option.join_some, Option.join_none, Option.map_some, List.all_cons, List.all_nil, Value.oneCell', reduceIte, reduceCtorEq, Nat.reduceEqDiff, Nat.reduceAdd, Nat.reduceMul, Nat.reduceLT, Nat.reduceBEq, Nat.reduceLeDiff, Nat.reduceSub, List.size_toArray]
    refine ITri.ret ?_; exact EndR.plain (by simp) (by rfl) (by unfold tltB; rw [g]; rfl) (by rfl)
theorem refTilt_f (t : Tl) {h : AH} (hs : h.sees 0 = true) : Fc Try.prog 37 [tV t] h (.bool (tltB t)) h := by
  refine Fc.lift0 ?_ rfl rfl hs
  obtain ⟨xl, xh, yl, yh⟩ := t
  refine Fc.intro0 fn37 (by simp) rfl rfl ?_; simp only [argF]
  refine ITri.seq ?_
  refine ITri.reg pokT ?_; simp -implicitDefEqProofs (disch := first | decide | exact of_eq_true (eq_true rfl) | omega | assumption) only [ ↓vcD, vcE, evs, evP, evB, intsOf, fillC, Value.cells, pt, List.append_nil, List.nil_append, List.cons_append, List.length_cons, List.length_nil, List.filter_nil, List.map_nil, ↓List.getElem?_cons_zero, ↓List.getElem?_cons_succ, List.getElem?_cons_zero, List.getElem?_cons_succ, List.set_cons_zero, List.set_cons_succ, Option.join_some, Option.join_none, Option.map_some, List.all_cons, List.all_nil, Value.oneCell', reduceIte, reduceCtorEq, Nat.reduceEqDiff, Nat.reduceAdd, Nat.reduceMul, Nat.reduceLT, Nat.reduceBEq, Nat.reduceLeDiff, Nat.reduceSub, List.size_toArray]
  refine ITri.seq ?_
  by_cases g1 : -36000 ≤ xl
  rotate_left
  · refine ITri.reg pokT ?_; simp -implicitDefEqProofs (disch := first | decide | exact of_eq_true (eq_true rfl) | omega | assumption) only [g1, decide_false,  ↓vcD, vcE, evs, evP, evB, intsOf, fillC, Value.cells, pt, List.append_nil, List.nil_append, List.cons_append, List.length_cons, List.length_nil, List.filter_nil, List.map_nil, ↓List.getElem?_cons_zero, ↓List.getElem?_cons_succ, List.getElem?_cons_zero, List.getElem?_cons_succ, List.set_cons_zero, List.set_cons_succ, Option.join_some, Option.join_none, Option.map_some, List.all_cons, List.all_nil, Value.oneCell', reduceIte, reduceCtorEq, Nat.reduceEqDiff, Nat.reduceAdd, Nat.reduceMul, Nat.reduceLT, Nat.reduceBEq, Nat.reduceLeDiff, Nat.reduceSub, List.size_toArray]
    refine ITri.ret ?_; exact EndR.plain (by simp) (by rfl) (by unfold tltB angB; simp only [g1, decide_false, Bool.false_and]; rfl) (by rfl)
  by_cases g2 : xl ≤ xh
  rotate_left
  · refine ITri.reg pokT ?_; simp -implicitDefEqProofs (disch := first | decide | exact of_eq_true (eq_true rfl) | omega | assumption) only [g1, g2, decide_true, decide_false,  ↓vcD, vcE, evs, evP, evB, intsOf, fillC, Value.cells, pt, List.append_nil, List.nil_append, List.cons_append, List.length_cons, List.length_nil, List.filter_nil, List.map_nil, ↓List.getElem?_cons_zero, ↓List.getElem?_cons_succ, List.getElem?_cons_zero, List.getElem?_cons_succ, List.set_cons_zero, List.set_cons_succ, Option.join_some, Option.join_none, Option.map_some, List.all_cons, List.all_nil, Value.oneCell', reduceIte, reduceCtorEq, Nat.reduceEqDiff, Nat.reduceAdd, Nat.reduceMul, Nat.reduceLT, Nat.reduceBEq, Nat.reduceLeDiff, Nat.reduceSub, List.size_toArray]
    refine ITri.ret ?_; exact EndR.plain (by simp) (by rfl) (by unfold tltB angB; simp only [g2, decide_false, Bool.and_false, Bool.false_and]; rfl) (by rfl)
  by_cases g3 : xh ≤ 36000
  rotate_left
  · refine ITri.reg pokT ?_; simp -implicitDefEqProofs (disch := first | decide | exact of_eq_true (eq_true rfl) | omega | assumption) only [g1, g2, g3, decide_true, decide_false,  ↓vcD, vcE, evs, evP, evB, intsOf, fillC, Value.cells, pt, List.append_nil, List.nil_append, List.cons_append, List.length_cons, List.length_nil, List.filter_nil, List.map_nil, ↓List.getElem?_cons_zero, ↓List.getElem?_cons_succ, List.getElem?_cons_zero, List.getElem?_cons_succ, List.set_cons_zero, List.set_cons_succ, Option.join_some, Option.join_none, Option.map_some, List.all_cons, List.all_nil, Value.oneCell', reduceIte, reduceCtorEq, Nat.reduceEqDiff, Nat.reduceAdd, Nat.reduceMul, Nat.reduceLT, Nat.reduceBEq, Nat.reduceLeDiff, Nat.reduceSub, List.size_toArray]
    refine ITri.ret ?_; exact EndR.plain (by simp) (by rfl) (by unfold tltB angB; simp only [g3, decide_false, Bool.and_false, Bool.false_and]; rfl) (by rfl)
  by_cases g4 : -36000 ≤ yl
  rotate_left
  · refine ITri.reg pokT ?_; simp -implicitDefEqProofs (disch := first | decide | exact of_eq_true (eq_true rfl) | omega | assumption) only [g1, g2, g3, g4, decide_true, decide_false,  ↓vcD, vcE, evs, evP, evB, intsOf, fillC, Value.cells, pt, List.append_nil, List.nil_append, List.cons_append, List.length_cons, List.length_nil, List.filter_nil, List.map_nil, ↓List.getElem?_cons_zero, ↓List.getElem?_cons_succ, List.getElem?_cons_zero, List.getElem?_cons_succ, List.set_cons_zero, List.set_cons_succ, Option.join_some, Option.join_none, Option.map_some, List.all_cons, List.all_nil, Value.oneCell', reduceIte, reduceCtorEq, Nat.reduceEqDiff, Nat.reduceAdd, Nat.reduceMul, Nat.reduceLT, Nat.reduceBEq, Nat.reduceLeDiff, Nat.reduceSub, List.size_toArray]
    refine ITri.ret ?_; exact EndR.plain (by simp) (by rfl) (by unfold tltB angB; simp only [g4, decide_false, Bool.and_false, Bool.false_and]; rfl) (by rfl)
  by_cases g5 : yl ≤ yh
  rotate_left
  · refine ITri.reg pokT ?_; simp -implicitDefEqProofs (disch := first | decide | exact of_eq_true (eq_true rfl) | omega | assumption) only [g1, g2, g3, g4, g5, decide_true, decide_false,  ↓vcD, vcE, evs, evP, evB, intsOf, fillC, Value.cells, pt, List.append_nil, List.nil_append, List.cons_append, List.length_cons, List.length_nil, List.filter_nil, List.map_nil, ↓List.getElem?_cons_zero, ↓List.getElem?_cons_succ, List.getElem?_cons_zero, List.getElem?_cons_succ, List.set_cons_zero, List.set_cons_succ, Option.join_some, Option.join_none, Option.map_some, List.all_cons, List.all_nil, Value.oneCell', reduceIte, reduceCtorEq, Nat.reduceEqDiff, Nat.reduceAdd, Nat.reduceMul, Nat.reduceLT, Nat.reduceBEq, Nat.reduceLeDiff, Nat.reduceSub, List.size_toArray]
    refine ITri.ret ?_; exact EndR.plain (by simp) (by rfl) (by unfold tltB angB; simp only [g5, decide_false, Bool.and_false, Bool.false_and]; rfl) (by rfl)
  refine ITri.reg pokT ?_; simp -implicitDefEqProofs (disch := first | decide | exact of_eq_true (eq_true rfl) | omega | assumption) only [g1, g2, g3, g4, g5, decide_true,  ↓vcD, vcE, evs, evP, evB, intsOf, fillC, Value.cells, pt, List.append_nil, List.nil_append, List.cons_append, List.length_cons, List.length_nil, List.filter_nil, List.map_nil, ↓List.getElem?_cons_zero, ↓List.getElem?_cons_succ, List.getElem?_cons_zero, List.getElem?_cons_succ, List.set_cons_zero, List.set_cons_succ, Option.join_some, Option.join_none, Option.map_some, List.all_cons, List.all_nil, Value.oneCell', reduceIte, reduceCtorEq, Nat.reduceEqDiff, Nat.reduceAdd, Nat.reduceMul, Nat.reduceLT, Nat.reduceBEq, Nat.reduceLeDiff, Nat.reduceSub, List.size_toArray]
  refine ITri.ret ?_; exact EndR.plain (by simp) (by rfl) (by unfold tltB angB; simp only [g1, g2, g3, g4, g5, decide_true, Bool.true_and]; rfl) (by rfl)
theorem away_f (l k b : Int) (hl : -36000 ≤ l ∧ l ≤ 36000) (hk : -36000 ≤ k ∧ k ≤ 36000) (hb : -144000 ≤ b ∧ b ≤ 144000) {h : AH} (hs : h.sees 0 = true) : Fc Try.prog 68 [.agg #[.int .i64 l, .int .i64 k], .int .i64 b] h (.agg #[.int .i64 (awLo l k b), .int .i64 (awHi l k b)]) h := by
  refine Fc.lift0 ?_ rfl rfl hs
  refine Fc.intro0 fn68 (by simp) rfl rfl ?_; simp only [argF]
  refine ITri.seq ?_
  refine ITri.reg pokT ?_; simp -implicitDefEqProofs (disch := first | decide | exact of_eq_true (eq_true rfl) | omega | assumption) only [ ↓vcD, vcE, evs, evP, evB, intsOf, fillC, Value.cells, pt, List.append_nil, List.nil_append, List.cons_append, List.length_cons, List.length_nil, List.filter_nil, List.map_nil, ↓List.getElem?_cons_zero, ↓List.getElem?_cons_succ, List.getElem?_cons_zero, List.getElem?_cons_succ, List.set_cons_zero, List.set_cons_succ, Option.join_some, Option.join_none, Option.map_some, List.all_cons, List.all_nil, Value.oneCell', reduceIte, reduceCtorEq, Nat.reduceEqDiff, Nat.reduceAdd, Nat.reduceMul, Nat.reduceLT, Nat.reduceBEq, Nat.reduceLeDiff, Nat.reduceSub, List.size_toArray]
  refine ITri.seq ?_
  refine ITri.draw pokT ?_; simp -implicitDefEqProofs (disch := first | decide | exact of_eq_true (eq_true rfl) | omega | assumption) only [ ↓vcD, vcE, evs, evP, evB, intsOf, fillC, Value.cells, pt, List.append_nil, List.nil_append, List.cons_append, List.length_cons, List.length_nil, List.filter_nil, List.map_nil, ↓List.getElem?_cons_zero, ↓List.getElem?_cons_succ, List.getElem?_cons_zero, List.getElem?_cons_succ, List.set_cons_zero, List.set_cons_succ, Option.join_some, Option.join_none, Option.map_some, List.all_cons, List.all_nil, Value.oneCell', reduceIte, reduceCtorEq, Nat.reduceEqDiff, Nat.reduceAdd, Nat.reduceMul, Nat.reduceLT, Nat.reduceBEq, Nat.reduceLeDiff, Nat.reduceSub, List.size_toArray]
  refine ITri.seq ?_
  refine ITri.reg pokT ?_; simp -implicitDefEqProofs (disch := first | decide | exact of_eq_true (eq_true rfl) | omega | assumption) only [ ↓vcD, vcE, evs, evP, evB, intsOf, fillC, Value.cells, pt, List.append_nil, List.nil_append, List.cons_append, List.length_cons, List.length_nil, List.filter_nil, List.map_nil, ↓List.getElem?_cons_zero, ↓List.getElem?_cons_succ, List.getElem?_cons_zero, List.getElem?_cons_succ, List.set_cons_zero, List.set_cons_succ, Option.join_some, Option.join_none, Option.map_some, List.all_cons, List.all_nil, Value.oneCell', reduceIte, reduceCtorEq, Nat.reduceEqDiff, Nat.reduceAdd, Nat.reduceMul, Nat.reduceLT, Nat.reduceBEq, Nat.reduceLeDiff, Nat.reduceSub, List.size_toArray]
  refine ITri.ret ?_; exact EndR.plain (vs := [.agg ⟨[.int .i64 (max (max 0 (l + b)) (-(k + b))), .int .i64 (max (k + b) (-(l + b)))]⟩]) (by simp) (resF_agg 2 rfl (by kernel_rfl) (by simp -implicitDefEqProofs (disch := first | decide | exact of_eq_true (eq_true rfl) | omega | assumption) only [↓vcD, vcE, evs, evP, evB, intsOf, fillC, Value.cells, pt, List.append_nil, List.nil_append, List.cons_append, List.length_cons, List.length_nil, List.filter_nil, List.map_nil, ↓List.getElem?_cons_zero, ↓List.getElem?_cons_succ, List.getElem?_cons_zero, List.getElem?_cons_succ, List.set_cons_zero, List.set_cons_succ, Option.join_some, Option.join_none, Option.map_some, List.all_cons, List.all_nil, Value.oneCell', reduceIte, reduceCtorEq, Nat.reduceEqDiff, Nat.reduceAdd, Nat.reduceMul, Nat.reduceLT, Nat.reduceBEq, Nat.reduceLeDiff, Nat.reduceSub, List.size_toArray]) resF_nil) (by rfl) (by rfl)
theorem refAbs_f (n : Int) (hn : -1000000 ≤ n ∧ n ≤ 1000000) {h : AH} (hs : h.sees 0 = true) : Fc Try.prog 69 [.int .i64 n] h (.int .i64 (absF n)) h := by
  refine Fc.lift0 ?_ rfl rfl hs
  refine Fc.intro0 fn69 (by simp) rfl rfl ?_; simp only [argF]
  refine ITri.seq ?_
  refine ITri.reg pokT ?_; simp -implicitDefEqProofs (disch := first | decide | exact of_eq_true (eq_true rfl) | omega | assumption) only [ ↓vcD, vcE, evs, evP, evB, intsOf, fillC, Value.cells, pt, List.append_nil, List.nil_append, List.cons_append, List.length_cons, List.length_nil, List.filter_nil, List.map_nil, ↓List.getElem?_cons_zero, ↓List.getElem?_cons_succ, List.getElem?_cons_zero, List.getElem?_cons_succ, List.set_cons_zero, List.set_cons_succ, Option.join_some, Option.join_none, Option.map_some, List.all_cons, List.all_nil, Value.oneCell', reduceIte, reduceCtorEq, Nat.reduceEqDiff, Nat.reduceAdd, Nat.reduceMul, Nat.reduceLT, Nat.reduceBEq, Nat.reduceLeDiff, Nat.reduceSub, List.size_toArray]
  refine ITri.seq ?_
  refine ITri.reg pokT ?_; simp -implicitDefEqProofs (disch := first | decide | exact of_eq_true (eq_true rfl) | omega | assumption) only [ ↓vcD, vcE, evs, evP, evB, intsOf, fillC, Value.cells, pt, List.append_nil, List.nil_append, List.cons_append, List.length_cons, List.length_nil, List.filter_nil, List.map_nil, ↓List.getElem?_cons_zero, ↓List.getElem?_cons_succ, List.getElem?_cons_zero, List.getElem?_cons_succ, List.set_cons_zero, List.set_cons_succ, Option.join_some, Option.join_none, Option.map_some, List.all_cons, List.all_nil, Value.oneCell', reduceIte, reduceCtorEq, Nat.reduceEqDiff, Nat.reduceAdd, Nat.reduceMul, Nat.reduceLT, Nat.reduceBEq, Nat.reduceLeDiff, Nat.reduceSub, List.size_toArray]
  refine ITri.ret ?_; exact EndR.plain (by simp) (by rfl) (by rfl) (by rfl)
theorem refMost_f (l k b : Int) (hl : -36000 ≤ l ∧ l ≤ 36000) (hk : -36000 ≤ k ∧ k ≤ 36000) (hb : -144000 ≤ b ∧ b ≤ 144000) {h : AH} (hs : h.sees 0 = true) : Fc Try.prog 39 [.agg #[.int .i64 l, .int .i64 k], .int .i64 b] h (.int .i64 (mostF l k b)) h := by
  refine Fc.lift0 ?_ rfl rfl hs
  refine Fc.intro0 fn39 (by simp) rfl rfl ?_; simp only [argF]
  refine ITri.seq ?_
  refine ITri.reg pokT ?_; simp -implicitDefEqProofs (disch := first | decide | exact of_eq_true (eq_true rfl) | omega | assumption) only [ ↓vcD, vcE, evs, evP, evB, intsOf, fillC, Value.cells, pt, List.append_nil, List.nil_append, List.cons_append, List.length_cons, List.length_nil, List.filter_nil, List.map_nil, ↓List.getElem?_cons_zero, ↓List.getElem?_cons_succ, List.getElem?_cons_zero, List.getElem?_cons_succ, List.set_cons_zero, List.set_cons_succ, Option.join_some, Option.join_none, Option.map_some, List.all_cons, List.all_nil, Value.oneCell', reduceIte, reduceCtorEq, Nat.reduceEqDiff, Nat.reduceAdd, Nat.reduceMul, Nat.reduceLT, Nat.reduceBEq, Nat.reduceLeDiff, Nat.reduceSub, List.size_toArray]
  refine ITri.seq ?_
  refine ITri.draw pokT ?_; simp -implicitDefEqProofs (disch := first | decide | exact of_eq_true (eq_true rfl) | omega | assumption) only [ ↓vcD, vcE, evs, evP, evB, intsOf, fillC, Value.cells, pt, List.append_nil, List.nil_append, List.cons_append, List.length_cons, List.length_nil, List.filter_nil, List.map_nil, ↓List.getElem?_cons_zero, ↓List.getElem?_cons_succ, List.getElem?_cons_zero, List.getElem?_cons_succ, List.set_cons_zero, List.set_cons_succ, Option.join_some, Option.join_none, Option.map_some, List.all_cons, List.all_nil, Value.oneCell', reduceIte, reduceCtorEq, Nat.reduceEqDiff, Nat.reduceAdd, Nat.reduceMul, Nat.reduceLT, Nat.reduceBEq, Nat.reduceLeDiff, Nat.reduceSub, List.size_toArray]
  refine ⟨_, _, refAbs_f (l + b) (by omega) (sees0 rfl (of_decide_eq_true rfl)), ?_⟩
  try simp -implicitDefEqProofs (disch := first | decide | exact of_eq_true (eq_true rfl) | omega | assumption) only [ ↓vcD, vcE, evs, evP, evB, intsOf, fillC, Value.cells, pt, List.append_nil, List.nil_append, List.cons_append, List.length_cons, List.length_nil, List.filter_nil, List.map_nil, ↓List.getElem?_cons_zero, ↓List.getElem?_cons_succ, List.getElem?_cons_zero, List.getElem?_cons_succ, List.set_cons_zero, List.set_cons_succ, Option.join_some, Option.join_none, Option.map_some, List.all_cons, List.all_nil, Value.oneCell', reduceIte, reduceCtorEq, Nat.reduceEqDiff, Nat.reduceAdd, Nat.reduceMul, Nat.reduceLT, Nat.reduceBEq, Nat.reduceLeDiff, Nat.reduceSub, List.size_toArray]
  refine ⟨_, _, refAbs_f (k + b) (by omega) (sees0 rfl (of_decide_eq_true rfl)), ?_⟩
  try simp -implicitDefEqProofs (disch := first | decide | exact of_eq_true (eq_true rfl) | omega | assumption) only [ ↓vcD, vcE, evs, evP, evB, intsOf, fillC, Value.cells, pt, List.append_nil, List.nil_append, List.cons_append, List.length_cons, List.length_nil, List.filter_nil, List.map_nil, ↓List.getElem?_cons_zero, ↓List.getElem?_cons_succ, List.getElem?_cons_zero, List.getElem?_cons_succ, List.set_cons_zero, List.set_cons_succ, Option.join_some, Option.join_none, Option.map_some, List.all_cons, List.all_nil, Value.oneCell', reduceIte, reduceCtorEq, Nat.reduceEqDiff, Nat.reduceAdd, Nat.reduceMul, Nat.reduceLT, Nat.reduceBEq, Nat.reduceLeDiff, Nat.reduceSub, List.size_toArray]
  refine ITri.ret ?_; exact EndR.plain (by simp) (by rfl) (by rfl) (by rfl)
theorem refLeast_f (l k b : Int) (hl : -36000 ≤ l ∧ l ≤ 36000) (hk : -36000 ≤ k ∧ k ≤ 36000) (hb : -144000 ≤ b ∧ b ≤ 144000) {h : AH} (hs : h.sees 0 = true) : Fc Try.prog 38 [.agg #[.int .i64 l, .int .i64 k], .int .i64 b] h (.int .i64 (leastF l k b)) h := by
  refine Fc.lift0 ?_ rfl rfl hs
  refine Fc.intro0 fn38 (by simp) rfl rfl ?_; simp only [argF]
  refine ITri.seq ?_
  refine ITri.reg pokT ?_; simp -implicitDefEqProofs (disch := first | decide | exact of_eq_true (eq_true rfl) | omega | assumption) only [ ↓vcD, vcE, evs, evP, evB, intsOf, fillC, Value.cells, pt, List.append_nil, List.nil_append, List.cons_append, List.length_cons, List.length_nil, List.filter_nil, List.map_nil, ↓List.getElem?_cons_zero, ↓List.getElem?_cons_succ, List.getElem?_cons_zero, List.getElem?_cons_succ, List.set_cons_zero, List.set_cons_succ, Option.join_some, Option.join_none, Option.map_some, List.all_cons, List.all_nil, Value.oneCell', reduceIte, reduceCtorEq, Nat.reduceEqDiff, Nat.reduceAdd, Nat.reduceMul, Nat.reduceLT, Nat.reduceBEq, Nat.reduceLeDiff, Nat.reduceSub, List.size_toArray]
  refine ITri.seq ?_
  refine ITri.seq ?_
  by_cases g : l ≤ -b ∧ -b ≤ k
  · refine ITri.reg pokT ?_; simp -implicitDefEqProofs (disch := first | decide | exact of_eq_true (eq_true rfl) | omega | assumption) only [g.1, g.2, decide_true,  ↓vcD, vcE, evs, evP, evB, intsOf, fillC, Value.cells, pt, List.append_nil, List.nil_append, List.cons_append, List.length_cons, List.length_nil, List.filter_nil, List.map_nil, ↓List.getElem?_cons_zero, ↓List.getElem?_cons_succ, List.getElem?_cons_zero, List.getElem?_cons_succ, List.set_cons_zero, List.set_cons_succ, Option.join_some, Option.join_none, Option.map_some, List.all_cons, List.all_nil, Value.oneCell', reduceIte, reduceCtorEq, Nat.reduceEqDiff, Nat.reduceAdd, Nat.reduceMul, Nat.reduceLT, Nat.reduceBEq, Nat.reduceLeDiff, Nat.reduceSub, List.size_toArray]
    refine ITri.cond (v := true) rfl (fun _ => ?_) (fun h => by cases h)
    refine ITri.seq ?_
    refine ITri.reg pokT ?_; simp -implicitDefEqProofs (disch := first | decide | exact of_eq_true (eq_true rfl) | omega | assumption) only [ ↓vcD, vcE, evs, evP, evB, intsOf, fillC, Value.cells, pt, List.append_nil, List.nil_append, List.cons_append, List.length_cons, List.length_nil, List.filter_nil, List.map_nil, ↓List.getElem?_cons_zero, ↓List.getElem?_cons_succ, List.getElem?_cons_zero, List.getElem?_cons_succ, List.set_cons_zero, List.set_cons_succ, Option.join_some, Option.join_none, Option.map_some, List.all_cons, List.all_nil, Value.oneCell', reduceIte, reduceCtorEq, Nat.reduceEqDiff, Nat.reduceAdd, Nat.reduceMul, Nat.reduceLT, Nat.reduceBEq, Nat.reduceLeDiff, Nat.reduceSub, List.size_toArray]
    refine ITri.ret ?_; exact EndR.plain (by simp) (by rfl) (by unfold leastF; rw [if_pos g]; rfl) (by rfl)
  refine ITri.one (P := Try.prog) [(1, .int .i64 b), (2, pt 1), (16, .bool false)] ?_ ?_
  · by_cases g1 : l ≤ -b
    · have g2 : ¬ -b ≤ k := fun h => g ⟨g1, h⟩
      refine ITri.reg pokT ?_; simp -implicitDefEqProofs (disch := first | decide | exact of_eq_true (eq_true rfl) | omega | assumption) only [g1, g2, decide_true, decide_false,  ↓vcD, vcE, evs, evP, evB, intsOf, fillC, Value.cells, pt, List.append_nil, List.nil_append, List.cons_append, List.length_cons, List.length_nil, List.filter_nil, List.map_nil, ↓List.getElem?_cons_zero, ↓List.getElem?_cons_succ, List.getElem?_cons_zero, List.getElem?_cons_succ, List.set_cons_zero, List.set_cons_succ, Option.join_some, Option.join_none, Option.map_some, List.all_cons, List.all_nil, Value.oneCell', reduceIte, reduceCtorEq, Nat.reduceEqDiff, Nat.reduceAdd, Nat.reduceMul, Nat.reduceLT, Nat.reduceBEq, Nat.reduceLeDiff, Nat.reduceSub, List.size_toArray]
    · refine ITri.reg pokT ?_; simp -implicitDefEqProofs (disch := first | decide | exact of_eq_true (eq_true rfl) | omega | assumption) only [g1, decide_false,  ↓vcD, vcE, evs, evP, evB, intsOf, fillC, Value.cells, pt, List.append_nil, List.nil_append, List.cons_append, List.length_cons, List.length_nil, List.filter_nil, List.map_nil, ↓List.getElem?_cons_zero, ↓List.getElem?_cons_succ, List.getElem?_cons_zero, List.getElem?_cons_succ, List.set_cons_zero, List.set_cons_succ, Option.join_some, Option.join_none, Option.map_some, List.all_cons, List.all_nil, Value.oneCell', reduceIte, reduceCtorEq, Nat.reduceEqDiff, Nat.reduceAdd, Nat.reduceMul, Nat.reduceLT, Nat.reduceBEq, Nat.reduceLeDiff, Nat.reduceSub, List.size_toArray]
  refine ITri.cond (v := false) rfl (fun h => by cases h) (fun _ => ?_); refine ITri.skip ?_; simp only [SeqQ_normal, BlkQ_normal]
  refine ITri.seq ?_
  refine ITri.draw pokT ?_; simp -implicitDefEqProofs (disch := first | decide | exact of_eq_true (eq_true rfl) | omega | assumption) only [ ↓vcD, vcE, evs, evP, evB, intsOf, fillC, Value.cells, pt, List.append_nil, List.nil_append, List.cons_append, List.length_cons, List.length_nil, List.filter_nil, List.map_nil, ↓List.getElem?_cons_zero, ↓List.getElem?_cons_succ, List.getElem?_cons_zero, List.getElem?_cons_succ, List.set_cons_zero, List.set_cons_succ, Option.join_some, Option.join_none, Option.map_some, List.all_cons, List.all_nil, Value.oneCell', reduceIte, reduceCtorEq, Nat.reduceEqDiff, Nat.reduceAdd, Nat.reduceMul, Nat.reduceLT, Nat.reduceBEq, Nat.reduceLeDiff, Nat.reduceSub, List.size_toArray]
  refine ⟨_, _, refAbs_f (l + b) (by omega) (sees0 rfl (of_decide_eq_true rfl)), ?_⟩
  try simp -implicitDefEqProofs (disch := first | decide | exact of_eq_true (eq_true rfl) | omega | assumption) only [ ↓vcD, vcE, evs, evP, evB, intsOf, fillC, Value.cells, pt, List.append_nil, List.nil_append, List.cons_append, List.length_cons, List.length_nil, List.filter_nil, List.map_nil, ↓List.getElem?_cons_zero, ↓List.getElem?_cons_succ, List.getElem?_cons_zero, List.getElem?_cons_succ, List.set_cons_zero, List.set_cons_succ, Option.join_some, Option.join_none, Option.map_some, List.all_cons, List.all_nil, Value.oneCell', reduceIte, reduceCtorEq, Nat.reduceEqDiff, Nat.reduceAdd, Nat.reduceMul, Nat.reduceLT, Nat.reduceBEq, Nat.reduceLeDiff, Nat.reduceSub, List.size_toArray]
  refine ⟨_, _, refAbs_f (k + b) (by omega) (sees0 rfl (of_decide_eq_true rfl)), ?_⟩
  try simp -implicitDefEqProofs (disch := first | decide | exact of_eq_true (eq_true rfl) | omega | assumption) only [ ↓vcD, vcE, evs, evP, evB, intsOf, fillC, Value.cells, pt, List.append_nil, List.nil_append, List.cons_append, List.length_cons, List.length_nil, List.filter_nil, List.map_nil, ↓List.getElem?_cons_zero, ↓List.getElem?_cons_succ, List.getElem?_cons_zero, List.getElem?_cons_succ, List.set_cons_zero, List.set_cons_succ, Option.join_some, Option.join_none, Option.map_some, List.all_cons, List.all_nil, Value.oneCell', reduceIte, reduceCtorEq, Nat.reduceEqDiff, Nat.reduceAdd, Nat.reduceMul, Nat.reduceLT, Nat.reduceBEq, Nat.reduceLeDiff, Nat.reduceSub, List.size_toArray]
  refine ITri.ret ?_; exact EndR.plain (by simp) (by rfl) (by unfold leastF; rw [if_neg g]; rfl) (by rfl)
theorem refSuits_f (t : Tl) (x y tol : Int) (ht : tltB t = true) (hx : -144000 ≤ x ∧ x ≤ 144000) (hy : -144000 ≤ y ∧ y ≤ 144000) {h : AH} (hs : h.sees 0 = true) : Fc Try.prog 75 [tV t, .agg #[.int .i64 x, .int .i64 y], .int .i64 tol] h (.bool (suitsB t x y tol)) h := by
  have hb := tlt_ok ht
  refine Fc.lift0 ?_ rfl rfl hs
  have m1 : 0 ≤ mostF t.1 t.2.1 x ∧ mostF t.1 t.2.1 x ≤ 200000 := by unfold mostF absF; omega
  have m2 : 0 ≤ mostF t.2.2.1 t.2.2.2 y ∧ mostF t.2.2.1 t.2.2.2 y ≤ 200000 := by unfold mostF absF; omega
  obtain ⟨xl, xh, yl, yh⟩ := t
  simp only at hb m1 m2
  refine Fc.intro0 fn75 (by simp) rfl rfl ?_; simp only [argF]
  refine ITri.seq ?_
  refine ITri.reg pokT ?_; simp -implicitDefEqProofs (disch := first | decide | exact of_eq_true (eq_true rfl) | omega | assumption) only [ ↓vcD, vcE, evs, evP, evB, intsOf, fillC, Value.cells, pt, List.append_nil, List.nil_append, List.cons_append, List.length_cons, List.length_nil, List.filter_nil, List.map_nil, ↓List.getElem?_cons_zero, ↓List.getElem?_cons_succ, List.getElem?_cons_zero, List.getElem?_cons_succ, List.set_cons_zero, List.set_cons_succ, Option.join_some, Option.join_none, Option.map_some, List.all_cons, List.all_nil, Value.oneCell', reduceIte, reduceCtorEq, Nat.reduceEqDiff, Nat.reduceAdd, Nat.reduceMul, Nat.reduceLT, Nat.reduceBEq, Nat.reduceLeDiff, Nat.reduceSub, List.size_toArray]
  refine ITri.seq ?_
  refine ITri.draw pokT ?_; simp -implicitDefEqProofs (disch := first | decide | exact of_eq_true (eq_true rfl) | omega | assumption) only [ ↓vcD, vcE, evs, evP, evB, intsOf, fillC, Value.cells, pt, List.append_nil, List.nil_append, List.cons_append, List.length_cons, List.length_nil, List.filter_nil, List.map_nil, ↓List.getElem?_cons_zero, ↓List.getElem?_cons_succ, List.getElem?_cons_zero, List.getElem?_cons_succ, List.set_cons_zero, List.set_cons_succ, Option.join_some, Option.join_none, Option.map_some, List.all_cons, List.all_nil, Value.oneCell', reduceIte, reduceCtorEq, Nat.reduceEqDiff, Nat.reduceAdd, Nat.reduceMul, Nat.reduceLT, Nat.reduceBEq, Nat.reduceLeDiff, Nat.reduceSub, List.size_toArray]
  refine ⟨_, _, refMost_f xl xh x (by omega) (by omega) hx (sees0 rfl (of_decide_eq_true rfl)), ?_⟩
  try simp -implicitDefEqProofs (disch := first | decide | exact of_eq_true (eq_true rfl) | omega | assumption) only [ ↓vcD, vcE, evs, evP, evB, intsOf, fillC, Value.cells, pt, List.append_nil, List.nil_append, List.cons_append, List.length_cons, List.length_nil, List.filter_nil, List.map_nil, ↓List.getElem?_cons_zero, ↓List.getElem?_cons_succ, List.getElem?_cons_zero, List.getElem?_cons_succ, List.set_cons_zero, List.set_cons_succ, Option.join_some, Option.join_none, Option.map_some, List.all_cons, List.all_nil, Value.oneCell', reduceIte, reduceCtorEq, Nat.reduceEqDiff, Nat.reduceAdd, Nat.reduceMul, Nat.reduceLT, Nat.reduceBEq, Nat.reduceLeDiff, Nat.reduceSub, List.size_toArray]
  refine ⟨_, _, refMost_f yl yh y (by omega) (by omega) hy (sees0 rfl (of_decide_eq_true rfl)), ?_⟩
  try simp -implicitDefEqProofs (disch := first | decide | exact of_eq_true (eq_true rfl) | omega | assumption) only [ ↓vcD, vcE, evs, evP, evB, intsOf, fillC, Value.cells, pt, List.append_nil, List.nil_append, List.cons_append, List.length_cons, List.length_nil, List.filter_nil, List.map_nil, ↓List.getElem?_cons_zero, ↓List.getElem?_cons_succ, List.getElem?_cons_zero, List.getElem?_cons_succ, List.set_cons_zero, List.set_cons_succ, Option.join_some, Option.join_none, Option.map_some, List.all_cons, List.all_nil, Value.oneCell', reduceIte, reduceCtorEq, Nat.reduceEqDiff, Nat.reduceAdd, Nat.reduceMul, Nat.reduceLT, Nat.reduceBEq, Nat.reduceLeDiff, Nat.reduceSub, List.size_toArray]
  refine ITri.ret ?_; exact EndR.plain (by simp) (by rfl) (by rfl) (by rfl)
/-- What Off returns. -/
def offF (t : Tl) (x y : Int) : Int × Int × Int := if tltB t = true then (if (inT x (-144000) 144000 && inT y (-144000) 144000) = true then (awLo t.1 t.2.1 x + awLo t.2.2.1 t.2.2.2 y, awHi t.1 t.2.1 x + awHi t.2.2.1 t.2.2.2 y, 0) else (0, 0, 3)) else (0, 0, 2)
theorem off_f (t : Tl) (x y : Int) {h : AH} (hs : h.sees 0 = true) : Fc Try.prog 36 [tV t, .agg #[.int .i64 x, .int .i64 y]] h (.tuple #[.agg #[.int .i64 (offF t x y).1, .int .i64 (offF t x y).2.1], .int .i64 (offF t x y).2.2]) h := by
  refine Fc.lift0 ?_ rfl rfl hs
  refine Fc.intro0 fn36 (by simp) rfl rfl ?_; simp only [argF]
  refine ITri.seq ?_
  refine ITri.reg pokT ?_; simp -implicitDefEqProofs (disch := first | decide | exact of_eq_true (eq_true rfl) | omega | assumption) only [ ↓vcD, vcE, evs, evP, evB, intsOf, fillC, Value.cells, pt, List.append_nil, List.nil_append, List.cons_append, List.length_cons, List.length_nil, List.filter_nil, List.map_nil, ↓List.getElem?_cons_zero, ↓List.getElem?_cons_succ, List.getElem?_cons_zero, List.getElem?_cons_succ, List.set_cons_zero, List.set_cons_succ, Option.join_some, Option.join_none, Option.map_some, List.all_cons, List.all_nil, Value.oneCell', reduceIte, reduceCtorEq, Nat.reduceEqDiff, Nat.reduceAdd, Nat.reduceMul, Nat.reduceLT, Nat.reduceBEq, Nat.reduceLeDiff, Nat.reduceSub, List.size_toArray]
  refine ITri.seq ?_
  refine ITri.block ?_ -- 0
  refine ITri.seq ?_
  refine ITri.reg pokT ?_; simp -implicitDefEqProofs (disch := first | decide | exact of_eq_true (eq_true rfl) | omega | assumption) only [ ↓vcD, vcE, evs, evP, evB, intsOf, fillC, Value.cells, pt, List.append_nil, List.nil_append, List.cons_append, List.length_cons, List.length_nil, List.filter_nil, List.map_nil, ↓List.getElem?_cons_zero, ↓List.getElem?_cons_succ, List.getElem?_cons_zero, List.getElem?_cons_succ, List.set_cons_zero, List.set_cons_succ, Option.join_some, Option.join_none, Option.map_some, List.all_cons, List.all_nil, Value.oneCell', reduceIte, reduceCtorEq, Nat.reduceEqDiff, Nat.reduceAdd, Nat.reduceMul, Nat.reduceLT, Nat.reduceBEq, Nat.reduceLeDiff, Nat.reduceSub, List.size_toArray]
  refine ⟨_, _, isTilt_f t (sees0 rfl (of_decide_eq_true rfl)), ?_⟩
  cases g1 : tltB t with
  | false =>
    simp -implicitDefEqProofs (disch := first | decide | exact of_eq_true (eq_true rfl) | omega | assumption) only [g1,  ↓vcD, vcE, evs, evP, evB, intsOf, fillC, Value.cells, pt, List.append_nil, List.nil_append, List.cons_append, List.length_cons, List.length_nil, List.filter_nil, List.map_nil, ↓List.getElem?_cons_zero, ↓List.getElem?_cons_succ, List.getElem?_cons_zero, List.getElem?_cons_succ, List.set_cons_zero, List.set_cons_succ, Option.join_some, Option.join_none, Option.map_some, List.all_cons, List.all_nil, Value.oneCell', reduceIte, reduceCtorEq, Nat.reduceEqDiff, Nat.reduceAdd, Nat.reduceMul, Nat.reduceLT, Nat.reduceBEq, Nat.reduceLeDiff, Nat.reduceSub, List.size_toArray]
    refine ITri.cond (v := true) rfl (fun _ => ?_) (fun h => by cases h)
    refine ITri.seq ?_
    refine ITri.reg pokT ?_; simp -implicitDefEqProofs (disch := first | decide | exact of_eq_true (eq_true rfl) | omega | assumption) only [ ↓vcD, vcE, evs, evP, evB, intsOf, fillC, Value.cells, pt, List.append_nil, List.nil_append, List.cons_append, List.length_cons, List.length_nil, List.filter_nil, List.map_nil, ↓List.getElem?_cons_zero, ↓List.getElem?_cons_succ, List.getElem?_cons_zero, List.getElem?_cons_succ, List.set_cons_zero, List.set_cons_succ, Option.join_some, Option.join_none, Option.map_some, List.all_cons, List.all_nil, Value.oneCell', reduceIte, reduceCtorEq, Nat.reduceEqDiff, Nat.reduceAdd, Nat.reduceMul, Nat.reduceLT, Nat.reduceBEq, Nat.reduceLeDiff, Nat.reduceSub, List.size_toArray]
    refine ITri.ret ?_; exact EndR.plain (vs := [.agg ⟨[.int .i64 0, .int .i64 0]⟩, .int .i64 2]) (by simp) (resF_agg 2 rfl (by kernel_rfl) (by simp -implicitDefEqProofs (disch := first | decide | exact of_eq_true (eq_true rfl) | omega | assumption) only [↓vcD, vcE, evs, evP, evB, intsOf, fillC, Value.cells, pt, List.append_nil, List.nil_append, List.cons_append, List.length_cons, List.length_nil, List.filter_nil, List.map_nil, ↓List.getElem?_cons_zero, ↓List.getElem?_cons_succ, List.getElem?_cons_zero, List.getElem?_cons_succ, List.set_cons_zero, List.set_cons_succ, Option.join_some, Option.join_none, Option.map_some, List.all_cons, List.all_nil, Value.oneCell', reduceIte, reduceCtorEq, Nat.reduceEqDiff, Nat.reduceAdd, Nat.reduceMul, Nat.reduceLT, Nat.reduceBEq, Nat.reduceLeDiff, Nat.reduceSub, List.size_toArray]) (resF_tmp rfl resF_nil)) (by unfold offF; rw [g1]; rfl) (by rfl)
  | true =>
    have hb := tlt_ok g1
    obtain ⟨xl, xh, yl, yh⟩ := t
    simp only at hb
    simp -implicitDefEqProofs (disch := first | decide | exact of_eq_true (eq_true rfl) | omega | assumption) only [g1,  ↓vcD, vcE, evs, evP, evB, intsOf, fillC, Value.cells, pt, List.append_nil, List.nil_append, List.cons_append, List.length_cons, List.length_nil, List.filter_nil, List.map_nil, ↓List.getElem?_cons_zero, ↓List.getElem?_cons_succ, List.getElem?_cons_zero, List.getElem?_cons_succ, List.set_cons_zero, List.set_cons_succ, Option.join_some, Option.join_none, Option.map_some, List.all_cons, List.all_nil, Value.oneCell', reduceIte, reduceCtorEq, Nat.reduceEqDiff, Nat.reduceAdd, Nat.reduceMul, Nat.reduceLT, Nat.reduceBEq, Nat.reduceLeDiff, Nat.reduceSub, List.size_toArray]
    refine ITri.cond (v := false) rfl (fun h => by cases h) (fun _ => ?_)
    refine ITri.seq ?_
    refine ITri.reg pokT ?_; simp -implicitDefEqProofs (disch := first | decide | exact of_eq_true (eq_true rfl) | omega | assumption) only [ ↓vcD, vcE, evs, evP, evB, intsOf, fillC, Value.cells, pt, List.append_nil, List.nil_append, List.cons_append, List.length_cons, List.length_nil, List.filter_nil, List.map_nil, ↓List.getElem?_cons_zero, ↓List.getElem?_cons_succ, List.getElem?_cons_zero, List.getElem?_cons_succ, List.set_cons_zero, List.set_cons_succ, Option.join_some, Option.join_none, Option.map_some, List.all_cons, List.all_nil, Value.oneCell', reduceIte, reduceCtorEq, Nat.reduceEqDiff, Nat.reduceAdd, Nat.reduceMul, Nat.reduceLT, Nat.reduceBEq, Nat.reduceLeDiff, Nat.reduceSub, List.size_toArray]
    refine ⟨_, _, withinT_f x (-144000) 144000 (sees0 rfl (of_decide_eq_true rfl)), ?_⟩
    cases g2 : inT x (-144000) 144000 with
    | false =>
      simp -implicitDefEqProofs (disch := first | decide | exact of_eq_true (eq_true rfl) | omega | assumption) only [g2,  ↓vcD, vcE, evs, evP, evB, intsOf, fillC, Value.cells, pt, List.append_nil, List.nil_append, List.cons_append, List.length_cons, List.length_nil, List.filter_nil, List.map_nil, ↓List.getElem?_cons_zero, ↓List.getElem?_cons_succ, List.getElem?_cons_zero, List.getElem?_cons_succ, List.set_cons_zero, List.set_cons_succ, Option.join_some, Option.join_none, Option.map_some, List.all_cons, List.all_nil, Value.oneCell', reduceIte, reduceCtorEq, Nat.reduceEqDiff, Nat.reduceAdd, Nat.reduceMul, Nat.reduceLT, Nat.reduceBEq, Nat.reduceLeDiff, Nat.reduceSub, List.size_toArray]
      refine ITri.cond (v := true) rfl (fun _ => ?_) (fun h => by cases h)
      refine ITri.seq ?_
      refine ITri.reg pokT ?_; simp -implicitDefEqProofs (disch := first | decide | exact of_eq_true (eq_true rfl) | omega | assumption) only [ ↓vcD, vcE, evs, evP, evB, intsOf, fillC, Value.cells, pt, List.append_nil, List.nil_append, List.cons_append, List.length_cons, List.length_nil, List.filter_nil, List.map_nil, ↓List.getElem?_cons_zero, ↓List.getElem?_cons_succ, List.getElem?_cons_zero, List.getElem?_cons_succ, List.set_cons_zero, List.set_cons_succ, Option.join_some, Option.join_none, Option.map_some, List.all_cons, List.all_nil, Value.oneCell', reduceIte, reduceCtorEq, Nat.reduceEqDiff, Nat.reduceAdd, Nat.reduceMul, Nat.reduceLT, Nat.reduceBEq, Nat.reduceLeDiff, Nat.reduceSub, List.size_toArray]
      refine ITri.ret ?_; exact EndR.plain (vs := [.agg ⟨[.int .i64 0, .int .i64 0]⟩, .int .i64 3]) (by simp) (resF_agg 2 rfl (by kernel_rfl) (by simp -implicitDefEqProofs (disch := first | decide | exact of_eq_true (eq_true rfl) | omega | assumption) only [↓vcD, vcE, evs, evP, evB, intsOf, fillC, Value.cells, pt, List.append_nil, List.nil_append, List.cons_append, List.length_cons, List.length_nil, List.filter_nil, List.map_nil, ↓List.getElem?_cons_zero, ↓List.getElem?_cons_succ, List.getElem?_cons_zero, List.getElem?_cons_succ, List.set_cons_zero, List.set_cons_succ, Option.join_some, Option.join_none, Option.map_some, List.all_cons, List.all_nil, Value.oneCell', reduceIte, reduceCtorEq, Nat.reduceEqDiff, Nat.reduceAdd, Nat.reduceMul, Nat.reduceLT, Nat.reduceBEq, Nat.reduceLeDiff, Nat.reduceSub, List.size_toArray]) (resF_tmp rfl resF_nil)) (by unfold offF; rw [g1, g2]; rfl) (by rfl)
    | true =>
      simp -implicitDefEqProofs (disch := first | decide | exact of_eq_true (eq_true rfl) | omega | assumption) only [g2,  ↓vcD, vcE, evs, evP, evB, intsOf, fillC, Value.cells, pt, List.append_nil, List.nil_append, List.cons_append, List.length_cons, List.length_nil, List.filter_nil, List.map_nil, ↓List.getElem?_cons_zero, ↓List.getElem?_cons_succ, List.getElem?_cons_zero, List.getElem?_cons_succ, List.set_cons_zero, List.set_cons_succ, Option.join_some, Option.join_none, Option.map_some, List.all_cons, List.all_nil, Value.oneCell', reduceIte, reduceCtorEq, Nat.reduceEqDiff, Nat.reduceAdd, Nat.reduceMul, Nat.reduceLT, Nat.reduceBEq, Nat.reduceLeDiff, Nat.reduceSub, List.size_toArray]
      refine ⟨_, _, withinT_f y (-144000) 144000 (sees0 rfl (of_decide_eq_true rfl)), ?_⟩
      cases g3 : inT y (-144000) 144000 with
      | false =>
        simp -implicitDefEqProofs (disch := first | decide | exact of_eq_true (eq_true rfl) | omega | assumption) only [g3,  ↓vcD, vcE, evs, evP, evB, intsOf, fillC, Value.cells, pt, List.append_nil, List.nil_append, List.cons_append, List.length_cons, List.length_nil, List.filter_nil, List.map_nil, ↓List.getElem?_cons_zero, ↓List.getElem?_cons_succ, List.getElem?_cons_zero, List.getElem?_cons_succ, List.set_cons_zero, List.set_cons_succ, Option.join_some, Option.join_none, Option.map_some, List.all_cons, List.all_nil, Value.oneCell', reduceIte, reduceCtorEq, Nat.reduceEqDiff, Nat.reduceAdd, Nat.reduceMul, Nat.reduceLT, Nat.reduceBEq, Nat.reduceLeDiff, Nat.reduceSub, List.size_toArray]
        refine ITri.cond (v := true) rfl (fun _ => ?_) (fun h => by cases h)
        refine ITri.seq ?_
        refine ITri.reg pokT ?_; simp -implicitDefEqProofs (disch := first | decide | exact of_eq_true (eq_true rfl) | omega | assumption) only [ ↓vcD, vcE, evs, evP, evB, intsOf, fillC, Value.cells, pt, List.append_nil, List.nil_append, List.cons_append, List.length_cons, List.length_nil, List.filter_nil, List.map_nil, ↓List.getElem?_cons_zero, ↓List.getElem?_cons_succ, List.getElem?_cons_zero, List.getElem?_cons_succ, List.set_cons_zero, List.set_cons_succ, Option.join_some, Option.join_none, Option.map_some, List.all_cons, List.all_nil, Value.oneCell', reduceIte, reduceCtorEq, Nat.reduceEqDiff, Nat.reduceAdd, Nat.reduceMul, Nat.reduceLT, Nat.reduceBEq, Nat.reduceLeDiff, Nat.reduceSub, List.size_toArray]
        refine ITri.ret ?_; exact EndR.plain (vs := [.agg ⟨[.int .i64 0, .int .i64 0]⟩, .int .i64 3]) (by simp) (resF_agg 2 rfl (by kernel_rfl) (by simp -implicitDefEqProofs (disch := first | decide | exact of_eq_true (eq_true rfl) | omega | assumption) only [↓vcD, vcE, evs, evP, evB, intsOf, fillC, Value.cells, pt, List.append_nil, List.nil_append, List.cons_append, List.length_cons, List.length_nil, List.filter_nil, List.map_nil, ↓List.getElem?_cons_zero, ↓List.getElem?_cons_succ, List.getElem?_cons_zero, List.getElem?_cons_succ, List.set_cons_zero, List.set_cons_succ, Option.join_some, Option.join_none, Option.map_some, List.all_cons, List.all_nil, Value.oneCell', reduceIte, reduceCtorEq, Nat.reduceEqDiff, Nat.reduceAdd, Nat.reduceMul, Nat.reduceLT, Nat.reduceBEq, Nat.reduceLeDiff, Nat.reduceSub, List.size_toArray]) (resF_tmp rfl resF_nil)) (by unfold offF; rw [g1, g2, g3]; rfl) (by rfl)
      | true =>
        have hx := inT_ok g2
        have hy := inT_ok g3
        simp -implicitDefEqProofs (disch := first | decide | exact of_eq_true (eq_true rfl) | omega | assumption) only [g3,  ↓vcD, vcE, evs, evP, evB, intsOf, fillC, Value.cells, pt, List.append_nil, List.nil_append, List.cons_append, List.length_cons, List.length_nil, List.filter_nil, List.map_nil, ↓List.getElem?_cons_zero, ↓List.getElem?_cons_succ, List.getElem?_cons_zero, List.getElem?_cons_succ, List.set_cons_zero, List.set_cons_succ, Option.join_some, Option.join_none, Option.map_some, List.all_cons, List.all_nil, Value.oneCell', reduceIte, reduceCtorEq, Nat.reduceEqDiff, Nat.reduceAdd, Nat.reduceMul, Nat.reduceLT, Nat.reduceBEq, Nat.reduceLeDiff, Nat.reduceSub, List.size_toArray]
        refine ITri.cond (v := false) rfl (fun h => by cases h) (fun _ => ?_); refine ITri.skip ?_; simp only [SeqQ_normal, BlkQ_normal]
        have m1 : 0 ≤ awLo xl xh x ∧ awLo xl xh x ≤ 200000 ∧ -200000 ≤ awHi xl xh x ∧ awHi xl xh x ≤ 200000 := by unfold awLo awHi; omega
        have m2 : 0 ≤ awLo yl yh y ∧ awLo yl yh y ≤ 200000 ∧ -200000 ≤ awHi yl yh y ∧ awHi yl yh y ≤ 200000 := by unfold awLo awHi; omega
        refine ITri.seq ?_
        refine ITri.draw pokT ?_; simp -implicitDefEqProofs (disch := first | decide | exact of_eq_true (eq_true rfl) | omega | assumption) only [ ↓vcD, vcE, evs, evP, evB, intsOf, fillC, Value.cells, pt, List.append_nil, List.nil_append, List.cons_append, List.length_cons, List.length_nil, List.filter_nil, List.map_nil, ↓List.getElem?_cons_zero, ↓List.getElem?_cons_succ, List.getElem?_cons_zero, List.getElem?_cons_succ, List.set_cons_zero, List.set_cons_succ, Option.join_some, Option.join_none, Option.map_some, List.all_cons, List.all_nil, Value.oneCell', reduceIte, reduceCtorEq, Nat.reduceEqDiff, Nat.reduceAdd, Nat.reduceMul, Nat.reduceLT, Nat.reduceBEq, Nat.reduceLeDiff, Nat.reduceSub, List.size_toArray]
        refine ⟨_, _, away_f xl xh x (by omega) (by omega) hx (sees0 rfl (of_decide_eq_true rfl)), ?_⟩
        try simp -implicitDefEqProofs (disch := first | decide | exact of_eq_true (eq_true rfl) | omega | assumption) only [ ↓vcD, vcE, evs, evP, evB, intsOf, fillC, Value.cells, pt, List.append_nil, List.nil_append, List.cons_append, List.length_cons, List.length_nil, List.filter_nil, List.map_nil, ↓List.getElem?_cons_zero, ↓List.getElem?_cons_succ, List.getElem?_cons_zero, List.getElem?_cons_succ, List.set_cons_zero, List.set_cons_succ, Option.join_some, Option.join_none, Option.map_some, List.all_cons, List.all_nil, Value.oneCell', reduceIte, reduceCtorEq, Nat.reduceEqDiff, Nat.reduceAdd, Nat.reduceMul, Nat.reduceLT, Nat.reduceBEq, Nat.reduceLeDiff, Nat.reduceSub, List.size_toArray]
        refine ⟨_, _, away_f yl yh y (by omega) (by omega) hy (sees0 rfl (of_decide_eq_true rfl)), ?_⟩
        try simp -implicitDefEqProofs (disch := first | decide | exact of_eq_true (eq_true rfl) | omega | assumption) only [ ↓vcD, vcE, evs, evP, evB, intsOf, fillC, Value.cells, pt, List.append_nil, List.nil_append, List.cons_append, List.length_cons, List.length_nil, List.filter_nil, List.map_nil, ↓List.getElem?_cons_zero, ↓List.getElem?_cons_succ, List.getElem?_cons_zero, List.getElem?_cons_succ, List.set_cons_zero, List.set_cons_succ, Option.join_some, Option.join_none, Option.map_some, List.all_cons, List.all_nil, Value.oneCell', reduceIte, reduceCtorEq, Nat.reduceEqDiff, Nat.reduceAdd, Nat.reduceMul, Nat.reduceLT, Nat.reduceBEq, Nat.reduceLeDiff, Nat.reduceSub, List.size_toArray]
        refine ITri.seq ?_
        refine ITri.reg pokT ?_; simp -implicitDefEqProofs (disch := first | decide | exact of_eq_true (eq_true rfl) | omega | assumption) only [ ↓vcD, vcE, evs, evP, evB, intsOf, fillC, Value.cells, pt, List.append_nil, List.nil_append, List.cons_append, List.length_cons, List.length_nil, List.filter_nil, List.map_nil, ↓List.getElem?_cons_zero, ↓List.getElem?_cons_succ, List.getElem?_cons_zero, List.getElem?_cons_succ, List.set_cons_zero, List.set_cons_succ, Option.join_some, Option.join_none, Option.map_some, List.all_cons, List.all_nil, Value.oneCell', reduceIte, reduceCtorEq, Nat.reduceEqDiff, Nat.reduceAdd, Nat.reduceMul, Nat.reduceLT, Nat.reduceBEq, Nat.reduceLeDiff, Nat.reduceSub, List.size_toArray]
        refine ITri.ret ?_; exact EndR.plain (vs := [.agg ⟨[.int .i64 (awLo xl xh x + awLo yl yh y), .int .i64 (awHi xl xh x + awHi yl yh y)]⟩, .int .i64 0]) (by simp) (resF_agg 2 rfl (by kernel_rfl) (by simp -implicitDefEqProofs (disch := first | decide | exact of_eq_true (eq_true rfl) | omega | assumption) only [↓vcD, vcE, evs, evP, evB, intsOf, fillC, Value.cells, pt, List.append_nil, List.nil_append, List.cons_append, List.length_cons, List.length_nil, List.filter_nil, List.map_nil, ↓List.getElem?_cons_zero, ↓List.getElem?_cons_succ, List.getElem?_cons_zero, List.getElem?_cons_succ, List.set_cons_zero, List.set_cons_succ, Option.join_some, Option.join_none, Option.map_some, List.all_cons, List.all_nil, Value.oneCell', reduceIte, reduceCtorEq, Nat.reduceEqDiff, Nat.reduceAdd, Nat.reduceMul, Nat.reduceLT, Nat.reduceBEq, Nat.reduceLeDiff, Nat.reduceSub, List.size_toArray]) (resF_tmp rfl resF_nil)) (by unfold offF; rw [g1, g2, g3]; rfl) (by rfl)
end Go.Proofs.Ytlkfcbdbieenhaa
