/-
  Chapter 7 at the top: Round and Grind of one slab that can be ground.
-/
import Derived.Test.YteddklolpcpjaaaGrC
set_option linter.unusedSimpArgs false
set_option linter.unusedVariables false
namespace Go.Proofs.Yteddklolpcpjaaa
open Go.RowKit Go.Vm
set_option maxRecDepth 1000000
def inB (n a b : Int) : Bool := decide (a ≤ n) && decide (n ≤ b)
def eG (x : Int) : List Value := [.int .u8 x]
instance flG : FlatE eG 1 := ⟨fun _ => rfl, fun _ => rfl, fun _ => rfl⟩
/- boule/crop.within · slots 15 · names 0:n 1:least 2:most 3:n 4:least 5:most · results [6] -/
def ir50_r0 : IC := .reg [⟨some 6, none, false, .mv (.k (.bool false))⟩] (some [0, 1, 2])
def ir50_r1 : IC := .reg [⟨some 7, none, false, .mv (.t 0)⟩,
  ⟨some 8, none, false, .mv (.t 1)⟩,
  ⟨some 9, none, false, .cmp .geq (.t 7) (.t 8)⟩,
  ⟨some 10, none, false, .mv (.t 9)⟩,
  ⟨some 11, some (10, true), false, .mv (.t 0)⟩,
  ⟨some 12, some (10, true), false, .mv (.t 2)⟩,
  ⟨some 13, some (10, true), false, .cmp .leq (.t 11) (.t 12)⟩,
  ⟨some 14, none, false, .pick (.t 10) (.t 13) (.k (.bool false))⟩,
  ⟨some 6, none, false, .mv (.t 14)⟩] (some [6])
def ir50_1 : IC := .seq ir50_r1 .ret
def ir50_2 : IC := .seq ir50_r0 ir50_1
def ir50 : IC := ir50_2
theorem fn50 : FnIs Try.prog 50 ir50 15 [.tmp 6] := ⟨Try.f50, Try.f50.body.getD .skip, Try.func50, by kernel_rfl, by kernel_rfl, by kernel_rfl, by kernel_rfl⟩
/- boule/crop.isSlab · slots 26 · names 0:s 1:s 3:d · results [2] -/
def ir26_r0 : IC := .reg [⟨some 1, none, false, .box (.t 0)⟩,
  ⟨some 2, none, false, .mv (.k (.bool false))⟩] (some [1])
def ir26_r1 : IC := .reg [⟨some 4, none, false, .fad 1 (.t 1)⟩,
  ⟨some 5, none, false, .lda 2 (.t 4)⟩,
  ⟨some 3, none, false, .alloc [(.int .i64 0), (.int .i64 0)]⟩,
  ⟨none, none, false, .st 2 (.t 3) (.t 5)⟩] (some [1, 3])
def ir26_r2 : IC := .reg [⟨some 6, none, false, .fad 0 (.t 1)⟩,
  ⟨some 7, none, false, .ldc (.t 6)⟩,
  ⟨some 8, none, false, .call (.f 50) [(.t 7), (.k (.int .i64 1)), (.k (.int .i64 3000))]⟩,
  ⟨some 9, none, false, .mv (.t 8)⟩,
  ⟨some 10, some (9, true), false, .fad 0 (.t 3)⟩,
  ⟨some 11, some (9, true), false, .ldc (.t 10)⟩,
  ⟨some 12, some (9, true), false, .cmp .leq (.k (.int .i64 0)) (.t 11)⟩,
  ⟨some 13, none, false, .pick (.t 9) (.t 12) (.k (.bool false))⟩,
  ⟨some 14, none, false, .mv (.t 13)⟩,
  ⟨some 15, some (14, true), false, .fad 0 (.t 3)⟩,
  ⟨some 16, some (14, true), false, .ldc (.t 15)⟩,
  ⟨some 17, some (14, true), false, .fad 1 (.t 3)⟩,
  ⟨some 18, some (14, true), false, .ldc (.t 17)⟩,
  ⟨some 19, some (14, true), false, .cmp .leq (.t 16) (.t 18)⟩,
  ⟨some 20, none, false, .pick (.t 14) (.t 19) (.k (.bool false))⟩,
  ⟨some 21, none, false, .mv (.t 20)⟩,
  ⟨some 22, some (21, true), false, .fad 1 (.t 3)⟩,
  ⟨some 23, some (21, true), false, .ldc (.t 22)⟩,
  ⟨some 24, some (21, true), false, .cmp .leq (.t 23) (.k (.int .i64 500000))⟩,
  ⟨some 25, none, false, .pick (.t 21) (.t 24) (.k (.bool false))⟩,
  ⟨some 2, none, false, .mv (.t 25)⟩] (some [2])
def ir26_1 : IC := .seq ir26_r2 .ret
def ir26_2 : IC := .seq ir26_r1 ir26_1
def ir26_3 : IC := .seq ir26_r0 ir26_2
def ir26 : IC := ir26_3
theorem fn26 : FnIs Try.prog 26 ir26 26 [.tmp 2] := ⟨Try.f26, Try.f26.body.getD .skip, Try.func26, by kernel_rfl, by kernel_rfl, by kernel_rfl, by kernel_rfl⟩
/- boule/crop.isDiameter · slots 5 · names 0:n 1:n · results [2] -/
def ir28_r0 : IC := .reg [⟨some 2, none, false, .mv (.k (.bool false))⟩] (some [0])
def ir28_r1 : IC := .reg [⟨some 3, none, false, .mv (.t 0)⟩,
  ⟨some 4, none, false, .call (.f 50) [(.t 3), (.k (.int .i64 1)), (.k (.int .i64 500000))]⟩,
  ⟨some 2, none, false, .mv (.t 4)⟩] (some [2])
def ir28_1 : IC := .seq ir28_r1 .ret
def ir28_2 : IC := .seq ir28_r0 ir28_1
def ir28 : IC := ir28_2
theorem fn28 : FnIs Try.prog 28 ir28 5 [.tmp 2] := ⟨Try.f28, Try.f28.body.getD .skip, Try.func28, by kernel_rfl, by kernel_rfl, by kernel_rfl, by kernel_rfl⟩
/- boule/crop.Round$1 · slots 6 · names 0:s 1:s · results [2] -/
def ir25_r0 : IC := .reg [⟨some 1, none, false, .box (.t 0)⟩,
  ⟨some 2, none, false, .mv (.k (.bool false))⟩] (some [1])
def ir25_r1 : IC := .reg [⟨some 3, none, false, .lda 3 (.t 1)⟩,
  ⟨some 4, none, false, .call (.f 26) [(.t 3)]⟩,
  ⟨some 5, none, false, .not (.t 4)⟩,
  ⟨some 2, none, false, .mv (.t 5)⟩] (some [2])
def ir25_1 : IC := .seq ir25_r1 .ret
def ir25_2 : IC := .seq ir25_r0 ir25_1
def ir25 : IC := ir25_2
theorem fn25 : FnIs Try.prog 25 ir25 6 [.tmp 2] := ⟨Try.f25, Try.f25.body.getD .skip, Try.func25, by kernel_rfl, by kernel_rfl, by kernel_rfl, by kernel_rfl⟩
/- slices.IndexFunc[[]boule/api.Slab,boule/api.Slab] · slots 19 · names 0:s 1:f 2:s 3:f 5:i · results [4] -/
def ir51_r0 : IC := .reg [⟨some 4, none, false, .mv (.k (.int .i64 0))⟩] (some [0, 1])
def ir51_r1 : IC := .reg [⟨some 6, none, false, .mv (.t 0)⟩,
  ⟨some 7, none, false, .len (.t 6)⟩,
  ⟨some 8, none, false, .mv (.k (.int .i64 0))⟩] (some [0, 1, 7, 8])
def ir51_r2 : IC := .reg [⟨some 9, none, false, .cmp .lss (.t 8) (.t 7)⟩] (some [0, 1, 7, 8, 9])
def ir51_1 : IC := .cond (.t 9) .skip (.exit 0)
def ir51_r3 : IC := .reg [⟨some 10, none, false, .mv (.t 8)⟩,
  ⟨some 5, none, false, .mv (.t 10)⟩] (some [0, 1, 5, 7, 8])
def ir51_r4 : IC := .reg [⟨some 11, none, false, .mv (.t 1)⟩,
  ⟨some 12, none, false, .mv (.t 0)⟩,
  ⟨some 13, none, false, .mv (.t 5)⟩,
  ⟨some 14, none, false, .iad 3 (.t 12) (.t 13)⟩,
  ⟨some 15, none, false, .lda 3 (.t 14)⟩,
  ⟨some 16, none, false, .call (.t 11) [(.t 15)]⟩] (some [0, 1, 5, 7, 8, 16])
def ir51_r5 : IC := .reg [⟨some 17, none, false, .mv (.t 5)⟩,
  ⟨some 4, none, false, .mv (.t 17)⟩] (some [4])
def ir51_2 : IC := .seq ir51_r5 .ret
def ir51_3 : IC := .cond (.t 16) ir51_2 .skip
def ir51_4 : IC := .seq ir51_r4 ir51_3
def ir51_5 : IC := .seq ir51_r3 ir51_4
def ir51_6 : IC := .block 1 ir51_5
def ir51_r6 : IC := .reg [⟨some 18, none, false, .ar .add (.t 8) (.k (.int .i64 1))⟩,
  ⟨some 8, none, false, .mv (.t 18)⟩] (some [0, 1, 7, 8])
def ir51_7 : IC := .seq ir51_6 ir51_r6
def ir51_8 : IC := .seq ir51_1 ir51_7
def ir51_9 : IC := .seq ir51_r2 ir51_8
def ir51_10 : IC := .loop ir51_9
def ir51_11 : IC := .block 0 ir51_10
def ir51_12 : IC := .seq ir51_r1 ir51_11
def ir51_r7 : IC := .reg [⟨some 4, none, false, .mv (.k (.int .i64 (-1)))⟩] (some [4])
def ir51_13 : IC := .seq ir51_r7 .ret
def ir51_14 : IC := .seq ir51_12 ir51_13
def ir51_15 : IC := .seq ir51_r0 ir51_14
def ir51 : IC := ir51_15
theorem fn51 : FnIs Try.prog 51 ir51 19 [.tmp 4] := ⟨Try.f51, Try.f51.body.getD .skip, Try.func51, by kernel_rfl, by kernel_rfl, by kernel_rfl, by kernel_rfl⟩
/- slices.ContainsFunc[[]boule/api.Slab,boule/api.Slab] · slots 9 · names 0:s 1:f 2:s 3:f · results [4] -/
def ir27_r0 : IC := .reg [⟨some 4, none, false, .mv (.k (.bool false))⟩] (some [0, 1])
def ir27_r1 : IC := .reg [⟨some 5, none, false, .mv (.t 0)⟩,
  ⟨some 6, none, false, .mv (.t 1)⟩,
  ⟨some 7, none, false, .call (.f 51) [(.t 5), (.t 6)]⟩,
  ⟨some 8, none, false, .cmp .geq (.t 7) (.k (.int .i64 0))⟩,
  ⟨some 4, none, false, .mv (.t 8)⟩] (some [4])
def ir27_1 : IC := .seq ir27_r1 .ret
def ir27_2 : IC := .seq ir27_r0 ir27_1
def ir27 : IC := ir27_2
theorem fn27 : FnIs Try.prog 27 ir27 9 [.tmp 4] := ⟨Try.f27, Try.f27.body.getD .skip, Try.func27, by kernel_rfl, by kernel_rfl, by kernel_rfl, by kernel_rfl⟩
/- boule/crop.Round · slots 53 · names 0:l 1:diameter 2:l 3:diameter 6:bad 7:out 8:_ 9:s 10:g · results [4, 5] -/
def ir11_r0 : IC := .reg [⟨some 4, none, false, .mv (.k (.slice none 0 0))⟩,
  ⟨some 5, none, false, .mv (.k (.int .i64 0))⟩] (some [0, 1])
def ir11_r1 : IC := .reg [⟨some 6, none, false, .mv (.f 25)⟩] (some [0, 1, 6])
def ir11_r2 : IC := .reg [⟨some 12, none, false, .mv (.t 0)⟩,
  ⟨some 13, none, false, .len (.t 12)⟩,
  ⟨some 14, none, false, .cmp .gtr (.t 13) (.k (.int .i64 60))⟩,
  ⟨some 11, none, false, .mv (.t 14)⟩] (some [0, 1, 6, 11])
def ir11_r3 : IC := .reg [⟨some 4, none, false, .mv (.k (.slice none 0 0))⟩,
  ⟨some 5, none, false, .mv (.k (.int .i64 5))⟩] (some [4, 5])
def ir11_1 : IC := .seq ir11_r3 .ret
def ir11_r4 : IC := .reg [⟨some 16, none, false, .mv (.t 0)⟩,
  ⟨some 17, none, false, .mv (.t 6)⟩,
  ⟨some 18, none, false, .call (.f 27) [(.t 16), (.t 17)]⟩,
  ⟨some 15, none, false, .mv (.t 18)⟩] (some [0, 1, 15])
def ir11_r5 : IC := .reg [⟨some 4, none, false, .mv (.k (.slice none 0 0))⟩,
  ⟨some 5, none, false, .mv (.k (.int .i64 2))⟩] (some [4, 5])
def ir11_2 : IC := .seq ir11_r5 .ret
def ir11_r6 : IC := .reg [⟨some 20, none, false, .mv (.t 1)⟩,
  ⟨some 21, none, false, .call (.f 28) [(.t 20)]⟩,
  ⟨some 22, none, false, .not (.t 21)⟩,
  ⟨some 19, none, false, .mv (.t 22)⟩] (some [0, 1, 19])
def ir11_r7 : IC := .reg [⟨some 4, none, false, .mv (.k (.slice none 0 0))⟩,
  ⟨some 5, none, false, .mv (.k (.int .i64 3))⟩] (some [4, 5])
def ir11_3 : IC := .seq ir11_r7 .ret
def ir11_4 : IC := .cond (.t 19) ir11_3 .skip
def ir11_5 : IC := .seq ir11_r6 ir11_4
def ir11_6 : IC := .cond (.t 15) ir11_2 ir11_5
def ir11_7 : IC := .seq ir11_r4 ir11_6
def ir11_8 : IC := .cond (.t 11) ir11_1 ir11_7
def ir11_9 : IC := .seq ir11_r2 ir11_8
def ir11_10 : IC := .block 0 ir11_9
def ir11_r8 : IC := .reg [⟨some 7, none, false, .mv (.k (.slice none 0 0))⟩] (some [0, 1, 7])
def ir11_r9 : IC := .reg [⟨some 23, none, false, .mv (.t 0)⟩,
  ⟨some 24, none, false, .len (.t 23)⟩,
  ⟨some 25, none, false, .mv (.k (.int .i64 0))⟩] (some [1, 7, 23, 24, 25])
def ir11_r10 : IC := .reg [⟨some 26, none, false, .cmp .lss (.t 25) (.t 24)⟩] (some [1, 7, 23, 24, 25, 26])
def ir11_11 : IC := .cond (.t 26) .skip (.exit 1)
def ir11_r11 : IC := .reg [⟨some 27, none, false, .iad 3 (.t 23) (.t 25)⟩,
  ⟨some 28, none, false, .lda 3 (.t 27)⟩,
  ⟨some 9, none, false, .alloc [(.int .i64 0), (.int .i64 0), (.int .i64 0)]⟩,
  ⟨none, none, false, .st 3 (.t 9) (.t 28)⟩] (some [1, 7, 9, 23, 24, 25])
def ir11_r12 : IC := .reg [⟨some 10, none, false, .mv (.k (.int .u8 2))⟩] (some [1, 7, 9, 10, 23, 24, 25])
def ir11_r14 : IC := .reg [⟨some 34, none, false, .fad 1 (.t 9)⟩,
  ⟨some 35, none, false, .fad 0 (.t 34)⟩,
  ⟨some 36, none, false, .ldc (.t 35)⟩,
  ⟨some 37, none, false, .mv (.t 1)⟩,
  ⟨some 38, none, false, .cmp .geq (.t 36) (.t 37)⟩,
  ⟨some 33, none, false, .mv (.t 38)⟩] (some [1, 7, 9, 10, 23, 24, 25, 33])
def ir11_r15 : IC := .reg [⟨some 39, none, false, .mv (.t 7)⟩,
  ⟨some 40, none, false, .bsl 1 1 [(.int .u8 0)] [(0, (.k (.int .u8 1)))]⟩,
  ⟨some 41, none, false, .app 1 1 (.t 39) (.t 40)⟩,
  ⟨some 7, none, false, .mv (.t 41)⟩] (some [1, 7, 23, 24, 25])
def ir11_r16 : IC := .reg [⟨some 43, none, false, .fad 1 (.t 9)⟩,
  ⟨some 44, none, false, .fad 1 (.t 43)⟩,
  ⟨some 45, none, false, .ldc (.t 44)⟩,
  ⟨some 46, none, false, .mv (.t 1)⟩,
  ⟨some 47, none, false, .cmp .lss (.t 45) (.t 46)⟩,
  ⟨some 42, none, false, .mv (.t 47)⟩] (some [1, 7, 10, 23, 24, 25, 42])
def ir11_r17 : IC := .reg [⟨some 48, none, false, .mv (.t 7)⟩,
  ⟨some 49, none, false, .bsl 1 1 [(.int .u8 0)] [(0, (.k (.int .u8 3)))]⟩,
  ⟨some 50, none, false, .app 1 1 (.t 48) (.t 49)⟩,
  ⟨some 7, none, false, .mv (.t 50)⟩] (some [1, 7, 23, 24, 25])
def ir11_r13 : IC := .reg [⟨some 29, none, false, .mv (.t 7)⟩,
  ⟨some 30, none, false, .mv (.t 10)⟩,
  ⟨some 31, none, false, .bsl 1 1 [(.int .u8 0)] [(0, (.t 30))]⟩,
  ⟨some 32, none, false, .app 1 1 (.t 29) (.t 31)⟩,
  ⟨some 7, none, false, .mv (.t 32)⟩] (some [1, 7, 23, 24, 25])
def ir11_12 : IC := .cond (.t 42) ir11_r17 ir11_r13
def ir11_13 : IC := .seq ir11_r16 ir11_12
def ir11_14 : IC := .cond (.t 33) ir11_r15 ir11_13
def ir11_15 : IC := .seq ir11_r14 ir11_14
def ir11_16 : IC := .block 3 ir11_15
def ir11_17 : IC := .seq ir11_r12 ir11_16
def ir11_18 : IC := .seq ir11_r11 ir11_17
def ir11_19 : IC := .block 2 ir11_18
def ir11_r18 : IC := .reg [⟨some 51, none, false, .ar .add (.t 25) (.k (.int .i64 1))⟩,
  ⟨some 25, none, false, .mv (.t 51)⟩] (some [1, 7, 23, 24, 25])
def ir11_20 : IC := .seq ir11_19 ir11_r18
def ir11_21 : IC := .seq ir11_11 ir11_20
def ir11_22 : IC := .seq ir11_r10 ir11_21
def ir11_23 : IC := .loop ir11_22
def ir11_24 : IC := .block 1 ir11_23
def ir11_25 : IC := .seq ir11_r9 ir11_24
def ir11_r19 : IC := .reg [⟨some 52, none, false, .mv (.t 7)⟩,
  ⟨some 4, none, false, .mv (.t 52)⟩,
  ⟨some 5, none, false, .mv (.k (.int .i64 0))⟩] (some [4, 5])
def ir11_26 : IC := .seq ir11_r19 .ret
def ir11_27 : IC := .seq ir11_25 ir11_26
def ir11_28 : IC := .seq ir11_r8 ir11_27
def ir11_29 : IC := .seq ir11_10 ir11_28
def ir11_30 : IC := .seq ir11_r1 ir11_29
def ir11_31 : IC := .seq ir11_r0 ir11_30
def ir11 : IC := ir11_31
theorem fn11 : FnIs Try.prog 11 ir11 53 [.tmp 4, .tmp 5] := ⟨Try.f11, Try.f11.body.getD .skip, Try.func11, by kernel_rfl, by kernel_rfl, by kernel_rfl, by kernel_rfl⟩
/- boule/crop.Grind · slots 45 · names 0:s 1:diameter 2:s 3:diameter 4:kept 5:removed 6:e 7:section · results [4, 5, 6] -/
def ir12_r0 : IC := .reg [⟨some 2, none, false, .box (.t 0)⟩,
  ⟨some 4, none, false, .mv (.k (.int .i64 0))⟩,
  ⟨some 5, none, false, .alloc [(.int .i64 0), (.int .i64 0)]⟩,
  ⟨some 6, none, false, .mv (.k (.int .i64 0))⟩] (some [1, 2, 5])
def ir12_r1 : IC := .reg [⟨some 9, none, false, .lda 3 (.t 2)⟩,
  ⟨some 10, none, false, .call (.f 26) [(.t 9)]⟩,
  ⟨some 11, none, false, .not (.t 10)⟩,
  ⟨some 8, none, false, .mv (.t 11)⟩] (some [1, 2, 5, 8])
def ir12_r2 : IC := .draw [(⟨some 12, none, false, .lda 2 (.t 5)⟩, true, 0, 0),
  (⟨some 4, none, false, .mv (.k (.int .i64 0))⟩, false, 0, 0),
  (⟨none, none, false, .st 2 (.t 5) (.t 12)⟩, true, 3, 0),
  (⟨some 6, none, false, .mv (.k (.int .i64 2))⟩, false, 7, 0)] (some [4, 5, 6])
def ir12_1 : IC := .seq ir12_r2 .ret
def ir12_r3 : IC := .reg [⟨some 14, none, false, .mv (.t 1)⟩,
  ⟨some 15, none, false, .call (.f 28) [(.t 14)]⟩,
  ⟨some 16, none, false, .not (.t 15)⟩,
  ⟨some 13, none, false, .mv (.t 16)⟩] (some [1, 2, 5, 13])
def ir12_r4 : IC := .draw [(⟨some 17, none, false, .lda 2 (.t 5)⟩, true, 0, 0),
  (⟨some 4, none, false, .mv (.k (.int .i64 0))⟩, false, 0, 0),
  (⟨none, none, false, .st 2 (.t 5) (.t 17)⟩, true, 3, 0),
  (⟨some 6, none, false, .mv (.k (.int .i64 3))⟩, false, 7, 0)] (some [4, 5, 6])
def ir12_2 : IC := .seq ir12_r4 .ret
def ir12_r5 : IC := .reg [⟨some 19, none, false, .fad 1 (.t 2)⟩,
  ⟨some 20, none, false, .fad 0 (.t 19)⟩,
  ⟨some 21, none, false, .ldc (.t 20)⟩,
  ⟨some 22, none, false, .mv (.t 1)⟩,
  ⟨some 23, none, false, .cmp .lss (.t 21) (.t 22)⟩,
  ⟨some 18, none, false, .mv (.t 23)⟩] (some [1, 2, 5, 18])
def ir12_r6 : IC := .draw [(⟨some 24, none, false, .lda 2 (.t 5)⟩, true, 0, 0),
  (⟨some 4, none, false, .mv (.k (.int .i64 0))⟩, false, 0, 0),
  (⟨none, none, false, .st 2 (.t 5) (.t 24)⟩, true, 3, 0),
  (⟨some 6, none, false, .mv (.k (.int .i64 70))⟩, false, 7, 0)] (some [4, 5, 6])
def ir12_3 : IC := .seq ir12_r6 .ret
def ir12_4 : IC := .cond (.t 18) ir12_3 .skip
def ir12_5 : IC := .seq ir12_r5 ir12_4
def ir12_6 : IC := .cond (.t 13) ir12_2 ir12_5
def ir12_7 : IC := .seq ir12_r3 ir12_6
def ir12_8 : IC := .cond (.t 8) ir12_1 ir12_7
def ir12_9 : IC := .seq ir12_r1 ir12_8
def ir12_10 : IC := .block 0 ir12_9
def ir12_r7 : IC := .reg [⟨some 25, none, false, .mkf 29 [] [(.t 2)]⟩,
  ⟨some 7, none, false, .mv (.t 25)⟩] (some [1, 2, 5, 7])
def ir12_r8 : IC := .reg [⟨some 26, none, false, .mv (.t 7)⟩,
  ⟨some 27, none, false, .mv (.t 1)⟩,
  ⟨some 28, none, false, .call (.t 26) [(.t 27)]⟩,
  ⟨some 4, none, false, .mv (.t 28)⟩] (some [2, 4, 5, 7])
def ir12_r9 : IC := .draw [(⟨some 29, none, false, .mv (.t 4)⟩, false, 0, 0),
  (⟨some 30, none, false, .mv (.t 7)⟩, false, 0, 0),
  (⟨some 31, none, false, .fad 1 (.t 2)⟩, false, 0, 0),
  (⟨some 32, none, false, .fad 0 (.t 31)⟩, false, 4, 0),
  (⟨some 33, none, false, .ldc (.t 32)⟩, false, 12, 1),
  (⟨some 34, none, false, .call (.t 30) [(.t 33)]⟩, false, 30, 1),
  (⟨some 35, none, false, .mv (.t 4)⟩, false, 0, 0),
  (⟨some 36, none, false, .ar .sub (.t 34) (.t 35)⟩, false, 126, 0),
  (⟨some 37, none, false, .mv (.t 7)⟩, false, 0, 0),
  (⟨some 38, none, false, .fad 1 (.t 2)⟩, false, 0, 0),
  (⟨some 39, none, false, .fad 1 (.t 38)⟩, false, 512, 0),
  (⟨some 40, none, false, .ldc (.t 39)⟩, false, 1536, 31),
  (⟨some 41, none, false, .call (.t 37) [(.t 40)]⟩, true, 3902, 0),
  (⟨some 42, none, false, .mv (.t 4)⟩, false, 0, 0),
  (⟨some 43, none, false, .ar .sub (.t 41) (.t 42)⟩, false, 16190, 0),
  (⟨some 44, none, false, .bld [(.int .i64 0), (.int .i64 0)] [(0, 1, (.t 36)), (1, 1, (.t 43))]⟩, false, 32766, 0),
  (⟨some 4, none, false, .mv (.t 29)⟩, false, 16255, 0),
  (⟨none, none, false, .st 2 (.t 5) (.t 44)⟩, true, 131071, 0),
  (⟨some 6, none, false, .mv (.k (.int .i64 0))⟩, false, 262143, 0)] (some [4, 5, 6])
def ir12_11 : IC := .seq ir12_r9 .ret
def ir12_12 : IC := .seq ir12_r8 ir12_11
def ir12_13 : IC := .seq ir12_r7 ir12_12
def ir12_14 : IC := .seq ir12_10 ir12_13
def ir12_15 : IC := .seq ir12_r0 ir12_14
def ir12 : IC := ir12_15
theorem fn12 : FnIs Try.prog 12 ir12 45 [.tmp 4, .cell 5 23, .tmp 6] := ⟨Try.f12, Try.f12.body.getD .skip, Try.func12, by kernel_rfl, by kernel_rfl, by kernel_rfl, by kernel_rfl⟩
/- boule/crop.Grind$1 · slots 10 · names 0:d 2:d · results [3] -/
def ir29_r0 : IC := .reg [⟨some 3, none, false, .mv (.k (.int .i64 0))⟩] (some [0, 1])
def ir29_r1 : IC := .reg [⟨some 4, none, false, .fad 0 (.t 1)⟩,
  ⟨some 5, none, false, .ldc (.t 4)⟩,
  ⟨some 6, none, false, .mv (.t 0)⟩,
  ⟨some 7, none, false, .ar .mul (.t 5) (.t 6)⟩,
  ⟨some 8, none, false, .mv (.t 0)⟩,
  ⟨some 9, none, false, .ar .mul (.t 7) (.t 8)⟩,
  ⟨some 3, none, false, .mv (.t 9)⟩] (some [3])
def ir29_1 : IC := .seq ir29_r1 .ret
def ir29_2 : IC := .seq ir29_r0 ir29_1
def ir29 : IC := ir29_2
theorem fn29 : FnIs Try.prog 29 ir29 10 [.tmp 3] := ⟨Try.f29, Try.f29.body.getD .skip, Try.func29, by kernel_rfl, by kernel_rfl, by kernel_rfl, by kernel_rfl⟩
section
variable {h : AH} {lo hi d : Int}
theorem cwithin_f (n a b : Int) (hs : h.sees 0 = true) : Fc Try.prog 50 [I6 n, I6 a, I6 b] h (.bool (inB n a b)) h := by
  refine Fc.lift0 ?_ rfl rfl hs
  refine Fc.intro0 fn50 (by simp) rfl rfl ?_; simp only [argF]
  refine ITri.seq ?_
  refine ITri.reg pok ?_; simp -implicitDefEqProofs (disch := first | decide | exact of_eq_true (eq_true rfl) | omega | assumption) only [ ↓vcD, vcE, ↓vcG, vcF, evs, evP, evB, intsOf, fillC, Value.cells, pt, Value.oneCell', reduceIte, reduceCtorEq, Nat.reduceEqDiff, Nat.reduceAdd, Nat.reduceMul, Nat.reduceLT, Nat.reduceBEq, Nat.reduceLeDiff, Nat.reduceSub]
  refine ITri.seq ?_
  by_cases g : a ≤ n
  · have g' : n ≥ a := g
    refine ITri.reg pok ?_; simp -implicitDefEqProofs (disch := first | decide | exact of_eq_true (eq_true rfl) | omega | assumption) only [g', decide_true,  ↓vcD, vcE, ↓vcG, vcF, evs, evP, evB, intsOf, fillC, Value.cells, pt, Value.oneCell', reduceIte, reduceCtorEq, Nat.reduceEqDiff, Nat.reduceAdd, Nat.reduceMul, Nat.reduceLT, Nat.reduceBEq, Nat.reduceLeDiff, Nat.reduceSub]
    refine ITri.ret ?_; exact EndR.plain (by simp) (by rfl) (by unfold inB; rw [decide_eq_true g]; rfl) (by rfl)
  · have g' : ¬ n ≥ a := g
    refine ITri.reg pok ?_; simp -implicitDefEqProofs (disch := first | decide | exact of_eq_true (eq_true rfl) | omega | assumption) only [g', decide_false,  ↓vcD, vcE, ↓vcG, vcF, evs, evP, evB, intsOf, fillC, Value.cells, pt, Value.oneCell', reduceIte, reduceCtorEq, Nat.reduceEqDiff, Nat.reduceAdd, Nat.reduceMul, Nat.reduceLT, Nat.reduceBEq, Nat.reduceLeDiff, Nat.reduceSub]
    refine ITri.ret ?_; exact EndR.plain (by simp) (by rfl) (by unfold inB; rw [decide_eq_false g]; rfl) (by rfl)
theorem inB_t {n a b : Int} (h1 : a ≤ n) (h2 : n ≤ b) : inB n a b = true := by unfold inB; rw [decide_eq_true h1, decide_eq_true h2]; rfl
abbrev slV (lo hi : Int) : Value := .agg #[I6 1, I6 lo, I6 hi]
theorem slab_f (h1 : 1 ≤ lo) (h2 : lo ≤ hi) (h3 : hi ≤ 500000) (hs : h.sees 0 = true) : Fc Try.prog 26 [slV lo hi] h (.bool true) h := by
  refine Fc.lift0 ?_ rfl rfl hs
  refine Fc.intro0 fn26 (by simp) rfl rfl ?_; simp only [argF]
  have t12 : ∀ a b c : Value, takeC [a, b, c] 1 2 = some [b, c] := fun a b c => rfl
  have w2 : ∀ a b z0 z1 : Value, writeAt [z0, z1] 0 [a, b] = [a, b] := fun a b z0 z1 => rfl
  have c0 : (0 : Int) ≤ lo := by omega
  refine ITri.seq ?_
  refine ITri.reg pok ?_; simp -implicitDefEqProofs (disch := first | decide | exact of_eq_true (eq_true rfl) | omega | assumption) only [ ↓vcD, vcE, ↓vcG, vcF, evs, evP, evB, intsOf, fillC, Value.cells, pt, Value.oneCell', reduceIte, reduceCtorEq, Nat.reduceEqDiff, Nat.reduceAdd, Nat.reduceMul, Nat.reduceLT, Nat.reduceBEq, Nat.reduceLeDiff, Nat.reduceSub] -- r0
  refine ITri.seq ?_
  refine ITri.reg pok ?_; simp -implicitDefEqProofs (disch := first | decide | exact of_eq_true (eq_true rfl) | omega | assumption) only [t12, w2,  ↓vcD, vcE, ↓vcG, vcF, evs, evP, evB, intsOf, fillC, Value.cells, pt, Value.oneCell', reduceIte, reduceCtorEq, Nat.reduceEqDiff, Nat.reduceAdd, Nat.reduceMul, Nat.reduceLT, Nat.reduceBEq, Nat.reduceLeDiff, Nat.reduceSub] -- r1
  refine ITri.seq ?_
  refine ITri.reg pok ?_; simp -implicitDefEqProofs (disch := first | decide | exact of_eq_true (eq_true rfl) | omega | assumption) only [ ↓vcD, vcE, ↓vcG, vcF, evs, evP, evB, intsOf, fillC, Value.cells, pt, Value.oneCell', reduceIte, reduceCtorEq, Nat.reduceEqDiff, Nat.reduceAdd, Nat.reduceMul, Nat.reduceLT, Nat.reduceBEq, Nat.reduceLeDiff, Nat.reduceSub] -- r2
  refine ⟨_, _, cwithin_f 1 1 3000 (sees0 rfl (of_decide_eq_true rfl)), ?_⟩
  rw [inB_t (by decide) (by decide)]
  simp -implicitDefEqProofs (disch := first | decide | exact of_eq_true (eq_true rfl) | omega | assumption) only [c0, h2, h3, decide_true,  ↓vcD, vcE, ↓vcG, vcF, evs, evP, evB, intsOf, fillC, Value.cells, pt, Value.oneCell', reduceIte, reduceCtorEq, Nat.reduceEqDiff, Nat.reduceAdd, Nat.reduceMul, Nat.reduceLT, Nat.reduceBEq, Nat.reduceLeDiff, Nat.reduceSub]
  refine ITri.ret ?_; exact EndR.plain (by simp) (by rfl) (by rfl) (by rfl)
theorem diam_f (h1 : 1 ≤ d) (h2 : d ≤ 500000) (hs : h.sees 0 = true) : Fc Try.prog 28 [I6 d] h (.bool true) h := by
  refine Fc.lift0 ?_ rfl rfl hs
  refine Fc.intro0 fn28 (by simp) rfl rfl ?_; simp only [argF]
  refine ITri.seq ?_
  refine ITri.reg pok ?_; simp -implicitDefEqProofs (disch := first | decide | exact of_eq_true (eq_true rfl) | omega | assumption) only [ ↓vcD, vcE, ↓vcG, vcF, evs, evP, evB, intsOf, fillC, Value.cells, pt, Value.oneCell', reduceIte, reduceCtorEq, Nat.reduceEqDiff, Nat.reduceAdd, Nat.reduceMul, Nat.reduceLT, Nat.reduceBEq, Nat.reduceLeDiff, Nat.reduceSub] -- r0
  refine ITri.seq ?_
  refine ITri.reg pok ?_; simp -implicitDefEqProofs (disch := first | decide | exact of_eq_true (eq_true rfl) | omega | assumption) only [ ↓vcD, vcE, ↓vcG, vcF, evs, evP, evB, intsOf, fillC, Value.cells, pt, Value.oneCell', reduceIte, reduceCtorEq, Nat.reduceEqDiff, Nat.reduceAdd, Nat.reduceMul, Nat.reduceLT, Nat.reduceBEq, Nat.reduceLeDiff, Nat.reduceSub] -- r1
  refine ⟨_, _, cwithin_f d 1 500000 (sees0 rfl (of_decide_eq_true rfl)), ?_⟩
  rw [inB_t h1 h2]
  try simp -implicitDefEqProofs (disch := first | decide | exact of_eq_true (eq_true rfl) | omega | assumption) only [ ↓vcD, vcE, ↓vcG, vcF, evs, evP, evB, intsOf, fillC, Value.cells, pt, Value.oneCell', reduceIte, reduceCtorEq, Nat.reduceEqDiff, Nat.reduceAdd, Nat.reduceMul, Nat.reduceLT, Nat.reduceBEq, Nat.reduceLeDiff, Nat.reduceSub]
  refine ITri.ret ?_; exact EndR.plain (by simp) (by rfl) (by rfl) (by rfl)
theorem bad_f (h1 : 1 ≤ lo) (h2 : lo ≤ hi) (h3 : hi ≤ 500000) (hs : h.sees 0 = true) : Fc Try.prog 25 [slV lo hi] h (.bool false) h := by
  refine Fc.lift0 ?_ rfl rfl hs
  refine Fc.intro0 fn25 (by simp) rfl rfl ?_; simp only [argF]
  refine ITri.seq ?_
  refine ITri.reg pok ?_; simp -implicitDefEqProofs (disch := first | decide | exact of_eq_true (eq_true rfl) | omega | assumption) only [ ↓vcD, vcE, ↓vcG, vcF, evs, evP, evB, intsOf, fillC, Value.cells, pt, Value.oneCell', reduceIte, reduceCtorEq, Nat.reduceEqDiff, Nat.reduceAdd, Nat.reduceMul, Nat.reduceLT, Nat.reduceBEq, Nat.reduceLeDiff, Nat.reduceSub] -- r0
  refine ITri.seq ?_
  refine ITri.reg pok ?_; simp -implicitDefEqProofs (disch := first | decide | exact of_eq_true (eq_true rfl) | omega | assumption) only [ ↓vcD, vcE, ↓vcG, vcF, evs, evP, evB, intsOf, fillC, Value.cells, pt, Value.oneCell', reduceIte, reduceCtorEq, Nat.reduceEqDiff, Nat.reduceAdd, Nat.reduceMul, Nat.reduceLT, Nat.reduceBEq, Nat.reduceLeDiff, Nat.reduceSub] -- r1
  refine ⟨_, _, slab_f h1 h2 h3 (sees0 rfl (of_decide_eq_true rfl)), ?_⟩
  simp -implicitDefEqProofs (disch := first | decide | exact of_eq_true (eq_true rfl) | omega | assumption) only [Bool.not_true,  ↓vcD, vcE, ↓vcG, vcF, evs, evP, evB, intsOf, fillC, Value.cells, pt, Value.oneCell', reduceIte, reduceCtorEq, Nat.reduceEqDiff, Nat.reduceAdd, Nat.reduceMul, Nat.reduceLT, Nat.reduceBEq, Nat.reduceLeDiff, Nat.reduceSub]
  refine ITri.ret ?_; exact EndR.plain (by simp) (by rfl) (by rfl) (by rfl)
abbrev slR (lo hi : Int) : List Value := [I6 1, I6 lo, I6 hi]
theorem idx_f (h1 : 1 ≤ lo) (h2 : lo ≤ hi) (h3 : hi ≤ 500000) {s : Value} (h0 : h.sees 0 = true) (r : Rd h s 1 (slR lo hi)) : Fc Try.prog 51 [s, .func (.func 25) #[] #[]] h (I6 (-1)) h := by
  refine Fc.lift1 (mk := fun ss => ss ++ [.func (.func 25) #[] #[]]) (mkv := fun _ => I6 (-1)) (os := []) (fun c => ?_) (MkL.app rfl) (MkV.const rfl) rfl (fun o ho => by cases ho) h0 r
  refine Fc.intro0 (h := H1 (slR lo hi)) fn51 (by simp) rfl rfl ?_; simp only [argF, List.cons_append, List.nil_append]
  have t03 : ∀ a b c : Value, takeC [a, b, c] (0 * 3) 3 = some [a, b, c] := fun a b c => rfl
  refine ITri.seq ?_
  refine ITri.reg pok ?_; simp -implicitDefEqProofs (disch := first | decide | exact of_eq_true (eq_true rfl) | omega | assumption) only [ ↓vcD, vcE, ↓vcG, vcF, evs, evP, evB, intsOf, fillC, Value.cells, pt, Value.oneCell', reduceIte, reduceCtorEq, Nat.reduceEqDiff, Nat.reduceAdd, Nat.reduceMul, Nat.reduceLT, Nat.reduceBEq, Nat.reduceLeDiff, Nat.reduceSub] -- r0
  refine ITri.seq ?_
  refine ITri.seq ?_
  refine ITri.reg pok ?_; simp -implicitDefEqProofs (disch := first | decide | exact of_eq_true (eq_true rfl) | omega | assumption) only [ ↓vcD, vcE, ↓vcG, vcF, evs, evP, evB, intsOf, fillC, Value.cells, pt, Value.oneCell', reduceIte, reduceCtorEq, Nat.reduceEqDiff, Nat.reduceAdd, Nat.reduceMul, Nat.reduceLT, Nat.reduceBEq, Nat.reduceLeDiff, Nat.reduceSub] -- r1
  refine ITri.block ?_ -- 0
  refine ITri.loop (fun k : Nat => [(0, s1 1 c), (1, .func (.func 25) #[] #[]), (7, .int .i64 (1 : Nat)), (8, .int .i64 k)]) (fun _ => []) (fun k => H1 (slR lo hi)) (fun k => k ≤ 1) (fun k => 1 - k) 0 (by omega) (Wk.sub ⟨rfl, rfl, rfl, rfl, trivial⟩) fun k hk => ?_
  refine ITri.seq ?_
  refine ITri.reg pok ?_; simp -implicitDefEqProofs (disch := first | decide | exact of_eq_true (eq_true rfl) | omega | assumption) only [ ↓vcD, vcE, ↓vcG, vcF, evs, evP, evB, intsOf, fillC, Value.cells, pt, Value.oneCell', reduceIte, reduceCtorEq, Nat.reduceEqDiff, Nat.reduceAdd, Nat.reduceMul, Nat.reduceLT, Nat.reduceBEq, Nat.reduceLeDiff, Nat.reduceSub] -- r2
  refine ITri.seq ?_
  refine ITri.condD (by rfl) (fun h2' => ?_) (fun h2' => ?_) -- %9
  · obtain rfl : k = 0 := by omega
    refine ITri.skip ?_; simp only [SeqQ_normal, BlkQ_normal]
    refine ITri.seq ?_
    refine ITri.block ?_ -- 1
    refine ITri.seq ?_
    refine ITri.reg pok ?_; simp -implicitDefEqProofs (disch := first | decide | exact of_eq_true (eq_true rfl) | omega | assumption) only [ ↓vcD, vcE, ↓vcG, vcF, evs, evP, evB, intsOf, fillC, Value.cells, pt, Value.oneCell', reduceIte, reduceCtorEq, Nat.reduceEqDiff, Nat.reduceAdd, Nat.reduceMul, Nat.reduceLT, Nat.reduceBEq, Nat.reduceLeDiff, Nat.reduceSub] -- r3
    refine ITri.seq ?_
    refine ITri.reg pok ?_; simp -implicitDefEqProofs (disch := first | decide | exact of_eq_true (eq_true rfl) | omega | assumption) only [t03, Int.toNat_natCast,  ↓vcD, vcE, ↓vcG, vcF, evs, evP, evB, intsOf, fillC, Value.cells, pt, Value.oneCell', reduceIte, reduceCtorEq, Nat.reduceEqDiff, Nat.reduceAdd, Nat.reduceMul, Nat.reduceLT, Nat.reduceBEq, Nat.reduceLeDiff, Nat.reduceSub] -- r4
    refine ⟨_, _, bad_f h1 h2 h3 (sees0 rfl (of_decide_eq_true rfl)), ?_⟩
    try simp -implicitDefEqProofs (disch := first | decide | exact of_eq_true (eq_true rfl) | omega | assumption) only [ ↓vcD, vcE, ↓vcG, vcF, evs, evP, evB, intsOf, fillC, Value.cells, pt, Value.oneCell', reduceIte, reduceCtorEq, Nat.reduceEqDiff, Nat.reduceAdd, Nat.reduceMul, Nat.reduceLT, Nat.reduceBEq, Nat.reduceLeDiff, Nat.reduceSub]
    refine ITri.cond (v := false) rfl (fun h => by cases h) (fun _ => ?_); refine ITri.skip ?_; simp only [SeqQ_normal, BlkQ_normal]
    have k1 : ((0 : Nat) : Int) + 1 = ((0 + 1 : Nat) : Int) := rfl
    refine ITri.reg pok ?_; simp -implicitDefEqProofs (disch := first | decide | exact of_eq_true (eq_true rfl) | omega | assumption) only [k1,  ↓vcD, vcE, ↓vcG, vcF, evs, evP, evB, intsOf, fillC, Value.cells, pt, Value.oneCell', reduceIte, reduceCtorEq, Nat.reduceEqDiff, Nat.reduceAdd, Nat.reduceMul, Nat.reduceLT, Nat.reduceBEq, Nat.reduceLeDiff, Nat.reduceSub] -- r6
    exact LoopQ.next (0 + 1) (by omega) (by omega) (Wk.sub ⟨rfl, rfl, rfl, rfl, trivial⟩)
  refine ITri.exit ?_; try simp -implicitDefEqProofs (disch := first | decide | exact of_eq_true (eq_true rfl) | omega | assumption) only [ ↓vcD, vcE, ↓vcG, vcF, evs, evP, evB, intsOf, fillC, Value.cells, pt, Value.oneCell', reduceIte, reduceCtorEq, Nat.reduceEqDiff, Nat.reduceAdd, Nat.reduceMul, Nat.reduceLT, Nat.reduceBEq, Nat.reduceLeDiff, Nat.reduceSub] -- exit 0
  refine ITri.seq ?_
  refine ITri.reg pok ?_; simp -implicitDefEqProofs (disch := first | decide | exact of_eq_true (eq_true rfl) | omega | assumption) only [ ↓vcD, vcE, ↓vcG, vcF, evs, evP, evB, intsOf, fillC, Value.cells, pt, Value.oneCell', reduceIte, reduceCtorEq, Nat.reduceEqDiff, Nat.reduceAdd, Nat.reduceMul, Nat.reduceLT, Nat.reduceBEq, Nat.reduceLeDiff, Nat.reduceSub] -- r7
  refine ITri.ret ?_; exact EndR.plain (by simp) (by rfl) (by rfl) (by rfl)
theorem con_f (h1 : 1 ≤ lo) (h2 : lo ≤ hi) (h3 : hi ≤ 500000) {s : Value} (h0 : h.sees 0 = true) (r : Rd h s 1 (slR lo hi)) : Fc Try.prog 27 [s, .func (.func 25) #[] #[]] h (.bool false) h := by
  refine Fc.lift1 (mk := fun ss => ss ++ [.func (.func 25) #[] #[]]) (mkv := fun _ => .bool false) (os := []) (fun c => ?_) (MkL.app rfl) (MkV.const rfl) rfl (fun o ho => by cases ho) h0 r
  refine Fc.intro0 (h := H1 (slR lo hi)) fn27 (by simp) rfl rfl ?_; simp only [argF, List.cons_append, List.nil_append]
  have n1 : ¬ (-1 : Int) ≥ 0 := by decide
  refine ITri.seq ?_
  refine ITri.reg pok ?_; simp -implicitDefEqProofs (disch := first | decide | exact of_eq_true (eq_true rfl) | omega | assumption) only [ ↓vcD, vcE, ↓vcG, vcF, evs, evP, evB, intsOf, fillC, Value.cells, pt, Value.oneCell', reduceIte, reduceCtorEq, Nat.reduceEqDiff, Nat.reduceAdd, Nat.reduceMul, Nat.reduceLT, Nat.reduceBEq, Nat.reduceLeDiff, Nat.reduceSub] -- r0
  refine ITri.seq ?_
  refine ITri.reg pok ?_; simp -implicitDefEqProofs (disch := first | decide | exact of_eq_true (eq_true rfl) | omega | assumption) only [ ↓vcD, vcE, ↓vcG, vcF, evs, evP, evB, intsOf, fillC, Value.cells, pt, Value.oneCell', reduceIte, reduceCtorEq, Nat.reduceEqDiff, Nat.reduceAdd, Nat.reduceMul, Nat.reduceLT, Nat.reduceBEq, Nat.reduceLeDiff, Nat.reduceSub] -- r1
  refine ⟨_, _, idx_f h1 h2 h3 (sees0 rfl (of_decide_eq_true rfl)) (Rd.hq rfl rfl), ?_⟩
  simp -implicitDefEqProofs (disch := first | decide | exact of_eq_true (eq_true rfl) | omega | assumption) only [n1, decide_false,  ↓vcD, vcE, ↓vcG, vcF, evs, evP, evB, intsOf, fillC, Value.cells, pt, Value.oneCell', reduceIte, reduceCtorEq, Nat.reduceEqDiff, Nat.reduceAdd, Nat.reduceMul, Nat.reduceLT, Nat.reduceBEq, Nat.reduceLeDiff, Nat.reduceSub]
  refine ITri.ret ?_; exact EndR.plain (by simp) (by rfl) (by rfl) (by rfl)
abbrev ones (k : Nat) : List Int := List.replicate k 1
theorem round_f (hd : 1 ≤ d) (h1 : d ≤ lo) (h2 : lo ≤ hi) (h3 : hi ≤ 500000) {s : Value} (h0 : h.sees 0 = true) (r : Rd h s 1 (slR lo hi)) : Fc Try.prog 11 [s, I6 d] h (.tuple #[sO h.next 1, I6 0]) (h.news [.cells ⟨[.int .u8 1], 1, true⟩]) := by
  refine Fc.lift1 (mk := fun ss => ss ++ [I6 d]) (mkv := fun ss => .tuple ⟨ss ++ [I6 0]⟩) (os := [(1, [.int .u8 1], 1)]) (fun c => ?_) (MkL.app rfl) (MkV.tup (MkL.app rfl)) rfl (fun o ho => by
    simp only [List.mem_cons, List.not_mem_nil, or_false] at ho
    subst ho
    rfl) h0 r
  show Fc _ _ _ _ _ (Hp 2 ([none, some (.cells ⟨slR lo hi, 0, false⟩)] ++ [some (.cells ⟨[.int .u8 1], 1, true⟩)]))
  have hn : Hp 2 ([none, some (.cells ⟨slR lo hi, 0, false⟩)] ++ [some (.cells ⟨[.int .u8 1], 1, true⟩)]) = (H1 (slR lo hi)).news [.cells ⟨[.int .u8 1], 1, true⟩] := by rw [Hq_news]; rfl
  rw [hn]
  refine Fc.introR (h := H1 (slR lo hi)) fn11 (by simp) rfl rfl ?_; simp only [argF, List.cons_append, List.nil_append]
  have t03 : ∀ a b c : Value, takeC [a, b, c] (0 * 3) 3 = some [a, b, c] := fun a b c => rfl
  have w33 : ∀ z0 z1 z2 a0 a1 a2 : Value, writeAt [z0, z1, z2] 0 [a0, a1, a2] = [a0, a1, a2] := fun z0 z1 z2 a0 a1 a2 => rfl
  refine ITri.seq ?_
  refine ITri.reg pok ?_; simp -implicitDefEqProofs (disch := first | decide | exact of_eq_true (eq_true rfl) | omega | assumption) only [ ↓vcD, vcE, ↓vcG, vcF, evs, evP, evB, intsOf, fillC, Value.cells, pt, Value.oneCell', reduceIte, reduceCtorEq, Nat.reduceEqDiff, Nat.reduceAdd, Nat.reduceMul, Nat.reduceLT, Nat.reduceBEq, Nat.reduceLeDiff, Nat.reduceSub] -- r0
  refine ITri.seq ?_
  refine ITri.reg pok ?_; simp -implicitDefEqProofs (disch := first | decide | exact of_eq_true (eq_true rfl) | omega | assumption) only [ ↓vcD, vcE, ↓vcG, vcF, evs, evP, evB, intsOf, fillC, Value.cells, pt, Value.oneCell', reduceIte, reduceCtorEq, Nat.reduceEqDiff, Nat.reduceAdd, Nat.reduceMul, Nat.reduceLT, Nat.reduceBEq, Nat.reduceLeDiff, Nat.reduceSub] -- r1
  refine ITri.seq ?_
  refine ITri.block ?_ -- 0
  refine ITri.seq ?_
  have c60 : ¬ (((1 : Nat) : Int) > 60) := by decide
  refine ITri.reg pok ?_; simp -implicitDefEqProofs (disch := first | decide | exact of_eq_true (eq_true rfl) | omega | assumption) only [c60, decide_false,  ↓vcD, vcE, ↓vcG, vcF, evs, evP, evB, intsOf, fillC, Value.cells, pt, Value.oneCell', reduceIte, reduceCtorEq, Nat.reduceEqDiff, Nat.reduceAdd, Nat.reduceMul, Nat.reduceLT, Nat.reduceBEq, Nat.reduceLeDiff, Nat.reduceSub] -- r2
  refine ITri.cond (v := false) rfl (fun h => by cases h) (fun _ => ?_)
  refine ITri.seq ?_
  refine ITri.reg pok ?_; simp -implicitDefEqProofs (disch := first | decide | exact of_eq_true (eq_true rfl) | omega | assumption) only [ ↓vcD, vcE, ↓vcG, vcF, evs, evP, evB, intsOf, fillC, Value.cells, pt, Value.oneCell', reduceIte, reduceCtorEq, Nat.reduceEqDiff, Nat.reduceAdd, Nat.reduceMul, Nat.reduceLT, Nat.reduceBEq, Nat.reduceLeDiff, Nat.reduceSub] -- r4
  refine ⟨_, _, con_f (by omega) h2 h3 (sees0 rfl (of_decide_eq_true rfl)) (Rd.hq rfl rfl), ?_⟩
  try simp -implicitDefEqProofs (disch := first | decide | exact of_eq_true (eq_true rfl) | omega | assumption) only [ ↓vcD, vcE, ↓vcG, vcF, evs, evP, evB, intsOf, fillC, Value.cells, pt, Value.oneCell', reduceIte, reduceCtorEq, Nat.reduceEqDiff, Nat.reduceAdd, Nat.reduceMul, Nat.reduceLT, Nat.reduceBEq, Nat.reduceLeDiff, Nat.reduceSub]
  refine ITri.cond (v := false) rfl (fun h => by cases h) (fun _ => ?_)
  refine ITri.seq ?_
  refine ITri.reg pok ?_; simp -implicitDefEqProofs (disch := first | decide | exact of_eq_true (eq_true rfl) | omega | assumption) only [ ↓vcD, vcE, ↓vcG, vcF, evs, evP, evB, intsOf, fillC, Value.cells, pt, Value.oneCell', reduceIte, reduceCtorEq, Nat.reduceEqDiff, Nat.reduceAdd, Nat.reduceMul, Nat.reduceLT, Nat.reduceBEq, Nat.reduceLeDiff, Nat.reduceSub] -- r6
  refine ⟨_, _, diam_f hd (by omega) (sees0 rfl (of_decide_eq_true rfl)), ?_⟩
  simp -implicitDefEqProofs (disch := first | decide | exact of_eq_true (eq_true rfl) | omega | assumption) only [Bool.not_true,  ↓vcD, vcE, ↓vcG, vcF, evs, evP, evB, intsOf, fillC, Value.cells, pt, Value.oneCell', reduceIte, reduceCtorEq, Nat.reduceEqDiff, Nat.reduceAdd, Nat.reduceMul, Nat.reduceLT, Nat.reduceBEq, Nat.reduceLeDiff, Nat.reduceSub]
  refine ITri.cond (v := false) rfl (fun h => by cases h) (fun _ => ?_); refine ITri.skip ?_; simp only [SeqQ_normal, BlkQ_normal]
  refine ITri.seq ?_
  refine ITri.reg pok ?_; simp -implicitDefEqProofs (disch := first | decide | exact of_eq_true (eq_true rfl) | omega | assumption) only [ ↓vcD, vcE, ↓vcG, vcF, evs, evP, evB, intsOf, fillC, Value.cells, pt, Value.oneCell', reduceIte, reduceCtorEq, Nat.reduceEqDiff, Nat.reduceAdd, Nat.reduceMul, Nat.reduceLT, Nat.reduceBEq, Nat.reduceLeDiff, Nat.reduceSub] -- r8
  refine ITri.seq ?_
  refine ITri.seq ?_
  refine ITri.reg pok ?_; simp -implicitDefEqProofs (disch := first | decide | exact of_eq_true (eq_true rfl) | omega | assumption) only [ ↓vcD, vcE, ↓vcG, vcF, evs, evP, evB, intsOf, fillC, Value.cells, pt, Value.oneCell', reduceIte, reduceCtorEq, Nat.reduceEqDiff, Nat.reduceAdd, Nat.reduceMul, Nat.reduceLT, Nat.reduceBEq, Nat.reduceLeDiff, Nat.reduceSub] -- r9
  refine ITri.block ?_ -- 1
  refine ITri.loop (fun k : Nat => [(1, I6 d), (7, sO 2 k), (23, s1 1 c), (24, .int .i64 (1 : Nat)), (25, .int .i64 k)]) (fun _ => []) (fun k => Hp 2 [none, some (.cells ⟨slR lo hi, 0, false⟩), some (.cells ⟨rows eG (ones k), 1, true⟩)]) (fun k => k ≤ 1) (fun k => 1 - k) 0 (by omega) (Wk.gc [0, 1, 2] [(2, .nil)] (of_decide_eq_true rfl) (of_decide_eq_true rfl) rfl rfl (of_decide_eq_true rfl) rfl rfl (by repeat (first | exact xiOK_nil | refine xiOK_cons (by first | trivial | exact roomOK _ (by decide)) ?_)) rfl (by simp -implicitDefEqProofs (disch := first | decide | exact of_eq_true (eq_true rfl) | omega | assumption) only [List.replicate_zero, rows_nil, objOK, sgL, xiL, objAt, nilO, OM, mvL, mv, mvS, okS, okP, mvL_rows, okML, okM, okML_rows, List.getElem?_cons_zero, Option.getD_some, implies_true, imp_self, ne_eq, and_self, true_or, or_true, Nat.zero_mul, Nat.sub_self, openB_self, ↓vcD, vcE, ↓vcG, vcF, evs, evP, evB, intsOf, fillC, Value.cells, pt, Value.oneCell', reduceIte, reduceCtorEq, Nat.reduceEqDiff, Nat.reduceAdd, Nat.reduceMul, Nat.reduceLT, Nat.reduceBEq, Nat.reduceLeDiff, Nat.reduceSub]) (by simp -implicitDefEqProofs (disch := first | decide | exact of_eq_true (eq_true rfl) | omega | assumption) only [List.replicate_zero, rows_nil, valOK, sgL, xiL, mv, mvA, mvL, mvS, okS, okP, okM, okMA, okML, Option.getD_some, implies_true, and_self, true_or, or_true, Int.natCast_add, Int.cast_ofNat_Int, Nat.zero_mul, Nat.sub_self, openB_self, ↓vcD, vcE, ↓vcG, vcF, evs, evP, evB, intsOf, fillC, Value.cells, pt, Value.oneCell', reduceIte, reduceCtorEq, Nat.reduceEqDiff, Nat.reduceAdd, Nat.reduceMul, Nat.reduceLT, Nat.reduceBEq, Nat.reduceLeDiff, Nat.reduceSub]) (fun _ h => by cases h) ⟨rfl, fun _ h => by cases h⟩) fun k hk => ?_
  refine ITri.seq ?_
  refine ITri.reg pok ?_; simp -implicitDefEqProofs (disch := first | decide | exact of_eq_true (eq_true rfl) | omega | assumption) only [ ↓vcD, vcE, ↓vcG, vcF, evs, evP, evB, intsOf, fillC, Value.cells, pt, Value.oneCell', reduceIte, reduceCtorEq, Nat.reduceEqDiff, Nat.reduceAdd, Nat.reduceMul, Nat.reduceLT, Nat.reduceBEq, Nat.reduceLeDiff, Nat.reduceSub] -- r10
  refine ITri.seq ?_
  refine ITri.condD (by rfl) (fun h2' => ?_) (fun h2' => ?_) -- %26
  · obtain rfl : k = 0 := by omega
    refine ITri.skip ?_; simp only [SeqQ_normal, BlkQ_normal]
    refine ITri.seq ?_
    refine ITri.block ?_ -- 2
    refine ITri.seq ?_
    refine ITri.reg pok ?_; simp -implicitDefEqProofs (disch := first | decide | exact of_eq_true (eq_true rfl) | omega | assumption) only [t03, w33, Int.toNat_natCast,  ↓vcD, vcE, ↓vcG, vcF, evs, evP, evB, intsOf, fillC, Value.cells, pt, Value.oneCell', reduceIte, reduceCtorEq, Nat.reduceEqDiff, Nat.reduceAdd, Nat.reduceMul, Nat.reduceLT, Nat.reduceBEq, Nat.reduceLeDiff, Nat.reduceSub] -- r11
    refine ITri.seq ?_
    refine ITri.reg pok ?_; simp -implicitDefEqProofs (disch := first | decide | exact of_eq_true (eq_true rfl) | omega | assumption) only [ ↓vcD, vcE, ↓vcG, vcF, evs, evP, evB, intsOf, fillC, Value.cells, pt, Value.oneCell', reduceIte, reduceCtorEq, Nat.reduceEqDiff, Nat.reduceAdd, Nat.reduceMul, Nat.reduceLT, Nat.reduceBEq, Nat.reduceLeDiff, Nat.reduceSub] -- r12
    refine ITri.block ?_ -- 3
    refine ITri.seq ?_
    have c1 : lo ≥ d := h1
    refine ITri.reg pok ?_; simp -implicitDefEqProofs (disch := first | decide | exact of_eq_true (eq_true rfl) | omega | assumption) only [c1, decide_true,  ↓vcD, vcE, ↓vcG, vcF, evs, evP, evB, intsOf, fillC, Value.cells, pt, Value.oneCell', reduceIte, reduceCtorEq, Nat.reduceEqDiff, Nat.reduceAdd, Nat.reduceMul, Nat.reduceLT, Nat.reduceBEq, Nat.reduceLeDiff, Nat.reduceSub] -- r14
    refine ITri.cut (fun _ : Unit => [(1, I6 d), (7, sO 2 1), (23, s1 1 c), (24, .int .i64 (1 : Nat)), (25, .int .i64 (0 : Nat))]) (fun _ => []) (fun _ => Hp 2 [none, some (.cells ⟨slR lo hi, 0, false⟩), some (.cells ⟨rows eG (ones 1), 1, true⟩)]) (fun _ => True) ?_ (fun _ _ => ?_)
    · refine ITri.cond (v := true) rfl (fun _ => ?_) (fun h => by cases h)
      have l0 : (rows eG (ones 0)).length = 0 * 1 := rfl
      have a0 : rows eG (ones 0) ++ [Value.int .u8 1] = rows eG (ones 1) := rfl
      refine ITri.reg pok ?_; simp -implicitDefEqProofs (disch := first | decide | exact of_eq_true (eq_true rfl) | omega | assumption) only [l0, a0,  ↓vcD, vcE, ↓vcG, vcF, evs, evP, evB, intsOf, fillC, Value.cells, pt, Value.oneCell', reduceIte, reduceCtorEq, Nat.reduceEqDiff, Nat.reduceAdd, Nat.reduceMul, Nat.reduceLT, Nat.reduceBEq, Nat.reduceLeDiff, Nat.reduceSub] -- r15
      exact CutQ.mk () trivial (Wk.gc [0, 1, 5] [] (of_decide_eq_true rfl) (of_decide_eq_true rfl) rfl rfl (of_decide_eq_true rfl) rfl rfl (by repeat (first | exact xiOK_nil | refine xiOK_cons (by first | trivial | exact roomOK _ (by decide)) ?_)) rfl (by simp -implicitDefEqProofs (disch := first | decide | exact of_eq_true (eq_true rfl) | omega | assumption) only [ objOK, sgL, xiL, objAt, nilO, OM, mvL, mv, mvS, okS, okP, mvL_rows, okML, okM, okML_rows, List.getElem?_cons_zero, Option.getD_some, implies_true, imp_self, ne_eq, and_self, true_or, or_true, Nat.zero_mul, Nat.sub_self, openB_self, ↓vcD, vcE, ↓vcG, vcF, evs, evP, evB, intsOf, fillC, Value.cells, pt, Value.oneCell', reduceIte, reduceCtorEq, Nat.reduceEqDiff, Nat.reduceAdd, Nat.reduceMul, Nat.reduceLT, Nat.reduceBEq, Nat.reduceLeDiff, Nat.reduceSub]) (by simp -implicitDefEqProofs (disch := first | decide | exact of_eq_true (eq_true rfl) | omega | assumption) only [ valOK, sgL, xiL, mv, mvA, mvL, mvS, okS, okP, okM, okMA, okML, Option.getD_some, implies_true, and_self, true_or, or_true, Int.natCast_add, Int.cast_ofNat_Int, Nat.zero_mul, Nat.sub_self, openB_self, ↓vcD, vcE, ↓vcG, vcF, evs, evP, evB, intsOf, fillC, Value.cells, pt, Value.oneCell', reduceIte, reduceCtorEq, Nat.reduceEqDiff, Nat.reduceAdd, Nat.reduceMul, Nat.reduceLT, Nat.reduceBEq, Nat.reduceLeDiff, Nat.reduceSub]) (fun _ h => by cases h) ⟨rfl, fun _ h => by cases h⟩)
    have k1 : ((0 : Nat) : Int) + 1 = ((0 + 1 : Nat) : Int) := rfl
    refine ITri.reg pok ?_; simp -implicitDefEqProofs (disch := first | decide | exact of_eq_true (eq_true rfl) | omega | assumption) only [k1,  ↓vcD, vcE, ↓vcG, vcF, evs, evP, evB, intsOf, fillC, Value.cells, pt, Value.oneCell', reduceIte, reduceCtorEq, Nat.reduceEqDiff, Nat.reduceAdd, Nat.reduceMul, Nat.reduceLT, Nat.reduceBEq, Nat.reduceLeDiff, Nat.reduceSub] -- r18
    exact LoopQ.next (0 + 1) (by omega) (by omega) (Wk.sub ⟨rfl, rfl, rfl, rfl, rfl, trivial⟩)
  refine ITri.exit ?_; try simp -implicitDefEqProofs (disch := first | decide | exact of_eq_true (eq_true rfl) | omega | assumption) only [ ↓vcD, vcE, ↓vcG, vcF, evs, evP, evB, intsOf, fillC, Value.cells, pt, Value.oneCell', reduceIte, reduceCtorEq, Nat.reduceEqDiff, Nat.reduceAdd, Nat.reduceMul, Nat.reduceLT, Nat.reduceBEq, Nat.reduceLeDiff, Nat.reduceSub] -- exit 1
  obtain rfl : k = 1 := by omega
  refine ITri.seq ?_
  refine ITri.reg pok ?_; simp -implicitDefEqProofs (disch := first | decide | exact of_eq_true (eq_true rfl) | omega | assumption) only [ ↓vcD, vcE, ↓vcG, vcF, evs, evP, evB, intsOf, fillC, Value.cells, pt, Value.oneCell', reduceIte, reduceCtorEq, Nat.reduceEqDiff, Nat.reduceAdd, Nat.reduceMul, Nat.reduceLT, Nat.reduceBEq, Nat.reduceLeDiff, Nat.reduceSub] -- r19
  refine ITri.ret ?_
  exact end_mk (k := 2) (mk := fun s => .tuple #[s, I6 0]) ⟨fun _ _ _ => rfl, fun _ _ _ h => ⟨h, trivial, trivial⟩⟩ (by decide) rfl rfl (by rfl) rfl
theorem sect_c (x : Int) (hx : 0 ≤ x ∧ x ≤ 500000) : Fc Try.prog 29 [I6 x, pt 1] (Hp 2 [none, some (.cells ⟨slR lo hi, 0, false⟩)]) (I6 (x * x)) (Hp 2 [none, some (.cells ⟨slR lo hi, 0, false⟩)]) := by
  refine Fc.intro0 fn29 (by simp) rfl rfl ?_; simp only [argF]
  have m0 : 0 ≤ x * x := Int.mul_nonneg hx.1 hx.1
  have m1 : x * x ≤ 500000 * 500000 := Int.mul_le_mul hx.2 hx.2 hx.1 (by omega)
  have o1 : 1 * x = x := Int.one_mul x
  refine ITri.seq ?_
  refine ITri.reg pok ?_; simp -implicitDefEqProofs (disch := first | decide | exact of_eq_true (eq_true rfl) | omega | assumption) only [ ↓vcD, vcE, ↓vcG, vcF, evs, evP, evB, intsOf, fillC, Value.cells, pt, Value.oneCell', reduceIte, reduceCtorEq, Nat.reduceEqDiff, Nat.reduceAdd, Nat.reduceMul, Nat.reduceLT, Nat.reduceBEq, Nat.reduceLeDiff, Nat.reduceSub] -- r0
  refine ITri.seq ?_
  refine ITri.reg pok ?_; simp -implicitDefEqProofs (disch := first | decide | exact of_eq_true (eq_true rfl) | omega | assumption) only [o1,  ↓vcD, vcE, ↓vcG, vcF, evs, evP, evB, intsOf, fillC, Value.cells, pt, Value.oneCell', reduceIte, reduceCtorEq, Nat.reduceEqDiff, Nat.reduceAdd, Nat.reduceMul, Nat.reduceLT, Nat.reduceBEq, Nat.reduceLeDiff, Nat.reduceSub] -- r1
  refine ITri.ret ?_; exact EndR.plain (by simp) (by rfl) (by rfl) (by rfl)
theorem sect_f (x : Int) (hx : 0 ≤ x ∧ x ≤ 500000) {k sz : Nat} {op : Bool} (h0 : h.sees 0 = true) (hk : h.get k = some (.cells ⟨slR lo hi, sz, op⟩)) : Fc Try.prog 29 [I6 x, pt k] h (I6 (x * x)) h := by
  refine Fc.frameL (Lc := [none, some (.cells ⟨slR lo hi, 0, false⟩)]) (os := []) (sect_c x hx) [(0, 0, false), (k, 0, false)] rfl ⟨fr_none h0, fr_rd (p := (k, 0, false)) (n := 3) rfl ⟨get_sees hk, _, hk, ⟨[], by simp⟩, fun _ => Nat.zero_le _⟩ rfl, trivial⟩ ⟨trivial, ⟨show 1 < 2 by decide, trivial⟩, trivial⟩ (okM_noAddr _ _ _ rfl) (fun o ho => by cases ho) rfl (mw_noAddr _ _ rfl) rfl
theorem grind_f (hd : 1 ≤ d) (h1 : d ≤ lo) (h2 : lo ≤ hi) (h3 : hi ≤ 500000) (h0 : h.sees 0 = true) : Fc Try.prog 12 [slV lo hi, I6 d] h (.tuple #[I6 (d * d), .agg #[I6 (lo * lo - d * d), I6 (hi * hi - d * d)], I6 0]) h := by
  refine Fc.lift0 ?_ rfl rfl h0
  refine Fc.intro0 fn12 (by simp) rfl rfl ?_; simp only [argF]
  have m0 : 0 ≤ d * d := Int.mul_nonneg (by omega) (by omega)
  have m1 : d * d ≤ 500000 * 500000 := Int.mul_le_mul (by omega) (by omega) (by omega) (by omega)
  have l0 : 0 ≤ lo * lo := Int.mul_nonneg (by omega) (by omega)
  have l1 : lo * lo ≤ 500000 * 500000 := Int.mul_le_mul (by omega) (by omega) (by omega) (by omega)
  have k0 : 0 ≤ hi * hi := Int.mul_nonneg (by omega) (by omega)
  have k1 : hi * hi ≤ 500000 * 500000 := Int.mul_le_mul (by omega) (by omega) (by omega) (by omega)
  have w2 : ∀ a b z0 z1 : Value, writeAt [z0, z1] 0 [a, b] = [a, b] := fun a b z0 z1 => rfl
  refine ITri.seq ?_
  refine ITri.reg pok ?_; simp -implicitDefEqProofs (disch := first | decide | exact of_eq_true (eq_true rfl) | omega | assumption) only [ ↓vcD, vcE, ↓vcG, vcF, evs, evP, evB, intsOf, fillC, Value.cells, pt, Value.oneCell', reduceIte, reduceCtorEq, Nat.reduceEqDiff, Nat.reduceAdd, Nat.reduceMul, Nat.reduceLT, Nat.reduceBEq, Nat.reduceLeDiff, Nat.reduceSub] -- r0
  refine ITri.seq ?_
  refine ITri.block ?_ -- 0
  refine ITri.seq ?_
  refine ITri.reg pok ?_; simp -implicitDefEqProofs (disch := first | decide | exact of_eq_true (eq_true rfl) | omega | assumption) only [ ↓vcD, vcE, ↓vcG, vcF, evs, evP, evB, intsOf, fillC, Value.cells, pt, Value.oneCell', reduceIte, reduceCtorEq, Nat.reduceEqDiff, Nat.reduceAdd, Nat.reduceMul, Nat.reduceLT, Nat.reduceBEq, Nat.reduceLeDiff, Nat.reduceSub] -- r1
  refine ⟨_, _, slab_f (by omega) h2 h3 (sees0 rfl (of_decide_eq_true rfl)), ?_⟩
  simp -implicitDefEqProofs (disch := first | decide | exact of_eq_true (eq_true rfl) | omega | assumption) only [Bool.not_true,  ↓vcD, vcE, ↓vcG, vcF, evs, evP, evB, intsOf, fillC, Value.cells, pt, Value.oneCell', reduceIte, reduceCtorEq, Nat.reduceEqDiff, Nat.reduceAdd, Nat.reduceMul, Nat.reduceLT, Nat.reduceBEq, Nat.reduceLeDiff, Nat.reduceSub]
  refine ITri.cond (v := false) rfl (fun h => by cases h) (fun _ => ?_)
  refine ITri.seq ?_
  refine ITri.reg pok ?_; simp -implicitDefEqProofs (disch := first | decide | exact of_eq_true (eq_true rfl) | omega | assumption) only [ ↓vcD, vcE, ↓vcG, vcF, evs, evP, evB, intsOf, fillC, Value.cells, pt, Value.oneCell', reduceIte, reduceCtorEq, Nat.reduceEqDiff, Nat.reduceAdd, Nat.reduceMul, Nat.reduceLT, Nat.reduceBEq, Nat.reduceLeDiff, Nat.reduceSub] -- r3
  refine ⟨_, _, diam_f hd (by omega) (sees0 rfl (of_decide_eq_true rfl)), ?_⟩
  simp -implicitDefEqProofs (disch := first | decide | exact of_eq_true (eq_true rfl) | omega | assumption) only [Bool.not_true,  ↓vcD, vcE, ↓vcG, vcF, evs, evP, evB, intsOf, fillC, Value.cells, pt, Value.oneCell', reduceIte, reduceCtorEq, Nat.reduceEqDiff, Nat.reduceAdd, Nat.reduceMul, Nat.reduceLT, Nat.reduceBEq, Nat.reduceLeDiff, Nat.reduceSub]
  refine ITri.cond (v := false) rfl (fun h => by cases h) (fun _ => ?_)
  refine ITri.seq ?_
  have c1 : ¬ lo < d := by omega
  refine ITri.reg pok ?_; simp -implicitDefEqProofs (disch := first | decide | exact of_eq_true (eq_true rfl) | omega | assumption) only [c1, decide_false,  ↓vcD, vcE, ↓vcG, vcF, evs, evP, evB, intsOf, fillC, Value.cells, pt, Value.oneCell', reduceIte, reduceCtorEq, Nat.reduceEqDiff, Nat.reduceAdd, Nat.reduceMul, Nat.reduceLT, Nat.reduceBEq, Nat.reduceLeDiff, Nat.reduceSub] -- r5
  refine ITri.cond (v := false) rfl (fun h => by cases h) (fun _ => ?_); refine ITri.skip ?_; simp only [SeqQ_normal, BlkQ_normal]
  refine ITri.seq ?_
  refine ITri.reg pok ?_; simp -implicitDefEqProofs (disch := first | decide | exact of_eq_true (eq_true rfl) | omega | assumption) only [ ↓vcD, vcE, ↓vcG, vcF, evs, evP, evB, intsOf, fillC, Value.cells, pt, Value.oneCell', reduceIte, reduceCtorEq, Nat.reduceEqDiff, Nat.reduceAdd, Nat.reduceMul, Nat.reduceLT, Nat.reduceBEq, Nat.reduceLeDiff, Nat.reduceSub] -- r7
  refine ITri.seq ?_
  refine ITri.reg pok ?_; simp -implicitDefEqProofs (disch := first | decide | exact of_eq_true (eq_true rfl) | omega | assumption) only [ ↓vcD, vcE, ↓vcG, vcF, evs, evP, evB, intsOf, fillC, Value.cells, pt, Value.oneCell', reduceIte, reduceCtorEq, Nat.reduceEqDiff, Nat.reduceAdd, Nat.reduceMul, Nat.reduceLT, Nat.reduceBEq, Nat.reduceLeDiff, Nat.reduceSub] -- r8
  refine ⟨_, _, sect_f (lo := lo) (hi := hi) d ⟨by omega, by omega⟩ (sees0 rfl (of_decide_eq_true rfl)) (get_hq rfl rfl), ?_⟩
  try simp -implicitDefEqProofs (disch := first | decide | exact of_eq_true (eq_true rfl) | omega | assumption) only [ ↓vcD, vcE, ↓vcG, vcF, evs, evP, evB, intsOf, fillC, Value.cells, pt, Value.oneCell', reduceIte, reduceCtorEq, Nat.reduceEqDiff, Nat.reduceAdd, Nat.reduceMul, Nat.reduceLT, Nat.reduceBEq, Nat.reduceLeDiff, Nat.reduceSub]
  refine ITri.seq ?_
  refine ITri.draw pok ?_; simp -implicitDefEqProofs (disch := first | decide | exact of_eq_true (eq_true rfl) | omega | assumption) only [ ↓vcD, vcE, ↓vcG, vcF, evs, evP, evB, intsOf, fillC, Value.cells, pt, Value.oneCell', reduceIte, reduceCtorEq, Nat.reduceEqDiff, Nat.reduceAdd, Nat.reduceMul, Nat.reduceLT, Nat.reduceBEq, Nat.reduceLeDiff, Nat.reduceSub] -- r9
  refine ⟨_, _, sect_f (lo := lo) (hi := hi) lo ⟨by omega, by omega⟩ (sees0 rfl (of_decide_eq_true rfl)) (get_hq rfl rfl), ?_⟩
  try simp -implicitDefEqProofs (disch := first | decide | exact of_eq_true (eq_true rfl) | omega | assumption) only [ ↓vcD, vcE, ↓vcG, vcF, evs, evP, evB, intsOf, fillC, Value.cells, pt, Value.oneCell', reduceIte, reduceCtorEq, Nat.reduceEqDiff, Nat.reduceAdd, Nat.reduceMul, Nat.reduceLT, Nat.reduceBEq, Nat.reduceLeDiff, Nat.reduceSub]
  refine ⟨_, _, sect_f (lo := lo) (hi := hi) hi ⟨by omega, by omega⟩ (sees0 rfl (of_decide_eq_true rfl)) (get_hq rfl rfl), ?_⟩
  simp -implicitDefEqProofs (disch := first | decide | exact of_eq_true (eq_true rfl) | omega | assumption) only [w2,  ↓vcD, vcE, ↓vcG, vcF, evs, evP, evB, intsOf, fillC, Value.cells, pt, Value.oneCell', reduceIte, reduceCtorEq, Nat.reduceEqDiff, Nat.reduceAdd, Nat.reduceMul, Nat.reduceLT, Nat.reduceBEq, Nat.reduceLeDiff, Nat.reduceSub]
  refine ITri.ret ?_; exact EndR.plain (vs := [I6 (d * d), .agg ⟨[I6 (lo * lo - d * d), I6 (hi * hi - d * d)]⟩, I6 0]) (by simp) (resF_tmp rfl (resF_agg 2 rfl (by kernel_rfl) (by simp -implicitDefEqProofs (disch := first | decide | exact of_eq_true (eq_true rfl) | omega | assumption) only [↓vcD, vcE, ↓vcG, vcF, evs, evP, evB, intsOf, fillC, Value.cells, pt, Value.oneCell', reduceIte, reduceCtorEq, Nat.reduceEqDiff, Nat.reduceAdd, Nat.reduceMul, Nat.reduceLT, Nat.reduceBEq, Nat.reduceLeDiff, Nat.reduceSub]) (resF_tmp rfl resF_nil))) (by rfl) (by rfl)
end
end Go.Proofs.Yteddklolpcpjaaa
