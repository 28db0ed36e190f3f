/-
  Chapter 4 at the top: meet, later, ceil, peak, Conflict.
-/
import Derived.Test.YteddklolpcpjaaaGrD
set_option linter.unusedSimpArgs false
set_option linter.unusedVariables false
namespace Go.Proofs.Yteddklolpcpjaaa
open Go.RowKit Go.Vm
set_option maxRecDepth 1000000
def eK (x : Kn) : List Value := [I6 x.l, I6 x.h, .bool x.s]
instance flK : FlatE eK 3 := ⟨fun _ => rfl, fun _ => rfl, fun _ => rfl⟩
abbrev kV (x : Kn) : Value := .agg ⟨[I6 x.l, I6 x.h, .bool x.s]⟩
theorem takeK {xs : List Kn} {i : Nat} (hi : i < xs.length) : takeC (rows eK xs) (i * 3) 3 = some [I6 (nth xs i).l, I6 (nth xs i).h, .bool (nth xs i).s] := rows_takeC (f := eK) hi
theorem wr33 (z0 z1 z2 a0 a1 a2 : Value) : writeAt [z0, z1, z2] 0 [a0, a1, a2] = [a0, a1, a2] := rfl
/-- Numbers that stay small. -/
def smK (k : Kn) : Prop := -1000000000 ≤ k.l ∧ k.l ≤ 1000000000 ∧ -1000000000 ≤ k.h ∧ k.h ≤ 1000000000
/- (boule/pull.known).meet · slots 26 · names 0:k 1:o 2:k 3:o · results [4] -/
def ir46_r0 : IC := .reg [⟨some 2, none, false, .box (.t 0)⟩,
  ⟨some 3, none, false, .box (.t 1)⟩,
  ⟨some 4, none, false, .alloc [(.int .i64 0), (.int .i64 0), (.bool false)]⟩] (some [2, 3, 4])
def ir46_r1 : IC := .reg [⟨some 6, none, false, .fad 2 (.t 3)⟩,
  ⟨some 7, none, false, .ldc (.t 6)⟩,
  ⟨some 8, none, false, .not (.t 7)⟩,
  ⟨some 5, none, false, .mv (.t 8)⟩] (some [2, 3, 4, 5])
def ir46_r2 : IC := .reg [⟨some 9, none, false, .lda 3 (.t 2)⟩,
  ⟨none, none, false, .st 3 (.t 4) (.t 9)⟩] (some [4])
def ir46_1 : IC := .seq ir46_r2 .ret
def ir46_r3 : IC := .reg [⟨some 11, none, false, .fad 2 (.t 2)⟩,
  ⟨some 12, none, false, .ldc (.t 11)⟩,
  ⟨some 13, none, false, .not (.t 12)⟩,
  ⟨some 10, none, false, .mv (.t 13)⟩] (some [2, 3, 4, 10])
def ir46_r4 : IC := .reg [⟨some 14, none, false, .lda 3 (.t 3)⟩,
  ⟨none, none, false, .st 3 (.t 4) (.t 14)⟩] (some [4])
def ir46_2 : IC := .seq ir46_r4 .ret
def ir46_3 : IC := .cond (.t 10) ir46_2 .skip
def ir46_4 : IC := .seq ir46_r3 ir46_3
def ir46_5 : IC := .cond (.t 5) ir46_1 ir46_4
def ir46_6 : IC := .seq ir46_r1 ir46_5
def ir46_7 : IC := .block 0 ir46_6
def ir46_r5 : IC := .reg [⟨some 15, none, false, .fad 0 (.t 2)⟩,
  ⟨some 16, none, false, .ldc (.t 15)⟩,
  ⟨some 17, none, false, .fad 0 (.t 3)⟩,
  ⟨some 18, none, false, .ldc (.t 17)⟩,
  ⟨some 19, none, false, .mm false [(.t 16), (.t 18)]⟩,
  ⟨some 20, none, false, .fad 1 (.t 2)⟩,
  ⟨some 21, none, false, .ldc (.t 20)⟩,
  ⟨some 22, none, false, .fad 1 (.t 3)⟩,
  ⟨some 23, none, false, .ldc (.t 22)⟩,
  ⟨some 24, none, false, .mm true [(.t 21), (.t 23)]⟩,
  ⟨some 25, none, false, .bld [(.int .i64 0), (.int .i64 0), (.bool false)] [(0, 1, (.t 19)), (1, 1, (.t 24)), (2, 1, (.k (.bool true)))]⟩,
  ⟨none, none, false, .st 3 (.t 4) (.t 25)⟩] (some [4])
def ir46_8 : IC := .seq ir46_r5 .ret
def ir46_9 : IC := .seq ir46_7 ir46_8
def ir46_10 : IC := .seq ir46_r0 ir46_9
def ir46 : IC := ir46_10
theorem fn46 : FnIs Try.prog 46 ir46 26 [.cell 4 129] := ⟨Try.f46, Try.f46.body.getD .skip, Try.func46, by kernel_rfl, by kernel_rfl, by kernel_rfl, by kernel_rfl⟩
/- (boule/pull.known).later · slots 18 · names 0:k 1:grow 2:shrink 3:k 4:grow 5:shrink · results [6] -/
def ir47_r0 : IC := .reg [⟨some 3, none, false, .box (.t 0)⟩,
  ⟨some 6, none, false, .alloc [(.int .i64 0), (.int .i64 0), (.bool false)]⟩] (some [1, 2, 3, 6])
def ir47_r1 : IC := .reg [⟨some 7, none, false, .fad 0 (.t 3)⟩,
  ⟨some 8, none, false, .ldc (.t 7)⟩,
  ⟨some 9, none, false, .mv (.t 2)⟩,
  ⟨some 10, none, false, .ar .sub (.t 8) (.t 9)⟩,
  ⟨some 11, none, false, .fad 1 (.t 3)⟩,
  ⟨some 12, none, false, .ldc (.t 11)⟩,
  ⟨some 13, none, false, .mv (.t 1)⟩,
  ⟨some 14, none, false, .ar .add (.t 12) (.t 13)⟩,
  ⟨some 15, none, false, .fad 2 (.t 3)⟩,
  ⟨some 16, none, false, .ldc (.t 15)⟩,
  ⟨some 17, none, false, .bld [(.int .i64 0), (.int .i64 0), (.bool false)] [(0, 1, (.t 10)), (1, 1, (.t 14)), (2, 1, (.t 16))]⟩,
  ⟨none, none, false, .st 3 (.t 6) (.t 17)⟩] (some [6])
def ir47_1 : IC := .seq ir47_r1 .ret
def ir47_2 : IC := .seq ir47_r0 ir47_1
def ir47 : IC := ir47_2
theorem fn47 : FnIs Try.prog 47 ir47 18 [.cell 6 129] := ⟨Try.f47, Try.f47.body.getD .skip, Try.func47, by kernel_rfl, by kernel_rfl, by kernel_rfl, by kernel_rfl⟩
/- boule/pull.ceil · slots 16 · names 0:a 1:b 2:a 3:b · results [4] -/
def ir66_r0 : IC := .reg [⟨some 4, none, false, .mv (.k (.int .i64 0))⟩] (some [0, 1])
def ir66_r1 : IC := .reg [⟨some 5, none, false, .mv (.t 0)⟩,
  ⟨some 6, none, false, .cmp .gtr (.t 5) (.k (.int .i64 0))⟩] (some [0, 1, 6])
def ir66_r2 : IC := .reg [⟨some 7, none, false, .mv (.t 0)⟩,
  ⟨some 8, none, false, .mv (.t 1)⟩,
  ⟨some 9, none, false, .ar .add (.t 7) (.t 8)⟩,
  ⟨some 10, none, false, .ar .sub (.t 9) (.k (.int .i64 1))⟩,
  ⟨some 11, none, false, .mv (.t 1)⟩,
  ⟨some 12, none, false, .div .quo (.t 10) (.t 11)⟩,
  ⟨some 4, none, false, .mv (.t 12)⟩] (some [4])
def ir66_1 : IC := .seq ir66_r2 .ret
def ir66_2 : IC := .cond (.t 6) ir66_1 .skip
def ir66_3 : IC := .seq ir66_r1 ir66_2
def ir66_r3 : IC := .reg [⟨some 13, none, false, .mv (.t 0)⟩,
  ⟨some 14, none, false, .mv (.t 1)⟩,
  ⟨some 15, none, false, .div .quo (.t 13) (.t 14)⟩,
  ⟨some 4, none, false, .mv (.t 15)⟩] (some [4])
def ir66_4 : IC := .seq ir66_r3 .ret
def ir66_5 : IC := .seq ir66_3 ir66_4
def ir66_6 : IC := .seq ir66_r0 ir66_5
def ir66 : IC := ir66_6
theorem fn66 : FnIs Try.prog 66 ir66 16 [.tmp 4] := ⟨Try.f66, Try.f66.body.getD .skip, Try.func66, by kernel_rfl, by kernel_rfl, by kernel_rfl, by kernel_rfl⟩
/- boule/pull.peak · slots 38 · names 0:a 1:up 2:b 3:down 4:a 5:up 6:b 7:down 9:top · results [8] -/
def ir49_r0 : IC := .reg [⟨some 8, none, false, .mv (.k (.int .i64 0))⟩] (some [0, 1, 2, 3])
def ir49_r1 : IC := .reg [⟨some 10, none, false, .mv (.t 2)⟩,
  ⟨some 11, none, false, .mv (.t 3)⟩,
  ⟨some 12, none, false, .ar .add (.t 10) (.t 11)⟩,
  ⟨some 9, none, false, .mv (.t 12)⟩] (some [0, 1, 2, 3, 9])
def ir49_r2 : IC := .reg [⟨some 14, none, false, .mv (.t 0)⟩,
  ⟨some 15, none, false, .mv (.t 9)⟩,
  ⟨some 16, none, false, .cmp .geq (.t 14) (.t 15)⟩,
  ⟨some 13, none, false, .mv (.t 16)⟩] (some [0, 1, 2, 3, 9, 13])
def ir49_r3 : IC := .reg [⟨some 17, none, false, .mv (.t 9)⟩,
  ⟨some 8, none, false, .mv (.t 17)⟩] (some [8])
def ir49_1 : IC := .seq ir49_r3 .ret
def ir49_r4 : IC := .reg [⟨some 19, none, false, .mv (.t 0)⟩,
  ⟨some 20, none, false, .mv (.t 1)⟩,
  ⟨some 21, none, false, .ar .add (.t 19) (.t 20)⟩,
  ⟨some 22, none, false, .mv (.t 2)⟩,
  ⟨some 23, none, false, .cmp .leq (.t 21) (.t 22)⟩,
  ⟨some 18, none, false, .mv (.t 23)⟩] (some [0, 1, 3, 9, 18])
def ir49_r5 : IC := .reg [⟨some 24, none, false, .mv (.t 0)⟩,
  ⟨some 25, none, false, .mv (.t 1)⟩,
  ⟨some 26, none, false, .ar .add (.t 24) (.t 25)⟩,
  ⟨some 8, none, false, .mv (.t 26)⟩] (some [8])
def ir49_2 : IC := .seq ir49_r5 .ret
def ir49_3 : IC := .cond (.t 18) ir49_2 .skip
def ir49_4 : IC := .seq ir49_r4 ir49_3
def ir49_5 : IC := .cond (.t 13) ir49_1 ir49_4
def ir49_6 : IC := .seq ir49_r2 ir49_5
def ir49_7 : IC := .block 0 ir49_6
def ir49_r6 : IC := .reg [⟨some 27, none, false, .mv (.t 0)⟩,
  ⟨some 28, none, false, .mv (.t 1)⟩,
  ⟨some 29, none, false, .mv (.t 9)⟩,
  ⟨some 30, none, false, .mv (.t 0)⟩,
  ⟨some 31, none, false, .ar .sub (.t 29) (.t 30)⟩,
  ⟨some 32, none, false, .ar .mul (.t 28) (.t 31)⟩,
  ⟨some 33, none, false, .mv (.t 1)⟩,
  ⟨some 34, none, false, .mv (.t 3)⟩,
  ⟨some 35, none, false, .ar .add (.t 33) (.t 34)⟩,
  ⟨some 36, none, false, .call (.f 66) [(.t 32), (.t 35)]⟩,
  ⟨some 37, none, false, .ar .add (.t 27) (.t 36)⟩,
  ⟨some 8, none, false, .mv (.t 37)⟩] (some [8])
def ir49_8 : IC := .seq ir49_r6 .ret
def ir49_9 : IC := .seq ir49_7 ir49_8
def ir49_10 : IC := .seq ir49_r1 ir49_9
def ir49_11 : IC := .seq ir49_r0 ir49_10
def ir49 : IC := ir49_11
theorem fn49 : FnIs Try.prog 49 ir49 38 [.tmp 8] := ⟨Try.f49, Try.f49.body.getD .skip, Try.func49, by kernel_rfl, by kernel_rfl, by kernel_rfl, by kernel_rfl⟩
/- boule/pull.Conflict · slots 72 · names 0:p 1:r 2:p 3:r 4:first 5:second 6:e 7:e 8:j 9:b 10:i 11:a 12:t · results [4, 5, 6] -/
def ir45_r0 : IC := .reg [⟨some 2, none, false, .box (.t 0)⟩,
  ⟨some 3, none, false, .box (.t 1)⟩,
  ⟨some 4, none, false, .mv (.k (.int .i64 0))⟩,
  ⟨some 5, none, false, .mv (.k (.int .i64 0))⟩,
  ⟨some 6, none, false, .mv (.k (.int .i64 0))⟩] (some [2, 3])
def ir45_r1 : IC := .reg [⟨some 13, none, false, .lda 117 (.t 2)⟩,
  ⟨some 14, none, false, .lda 4 (.t 3)⟩,
  ⟨some 15, none, false, .call (.f 48) [(.t 13), (.t 14)]⟩,
  ⟨some 7, none, false, .mv (.t 15)⟩] (some [2, 3, 7])
def ir45_r2 : IC := .reg [⟨some 16, none, false, .mv (.t 7)⟩,
  ⟨some 17, none, false, .cmp .neq (.t 16) (.k (.int .i64 0))⟩] (some [2, 3, 7, 17])
def ir45_r3 : IC := .reg [⟨some 18, none, false, .mv (.t 7)⟩,
  ⟨some 4, none, false, .mv (.k (.int .i64 0))⟩,
  ⟨some 5, none, false, .mv (.k (.int .i64 0))⟩,
  ⟨some 6, none, false, .mv (.t 18)⟩] (some [4, 5, 6])
def ir45_1 : IC := .seq ir45_r3 .ret
def ir45_2 : IC := .cond (.t 17) ir45_1 .skip
def ir45_3 : IC := .seq ir45_r2 ir45_2
def ir45_4 : IC := .seq ir45_r1 ir45_3
def ir45_r4 : IC := .reg [⟨some 19, none, false, .fad 2 (.t 3)⟩,
  ⟨some 20, none, false, .ldc (.t 19)⟩,
  ⟨some 21, none, false, .len (.t 20)⟩,
  ⟨some 22, none, false, .mv (.k (.int .i64 0))⟩] (some [2, 3, 20, 21, 22])
def ir45_r5 : IC := .reg [⟨some 23, none, false, .cmp .lss (.t 22) (.t 21)⟩] (some [2, 3, 20, 21, 22, 23])
def ir45_5 : IC := .cond (.t 23) .skip (.exit 0)
def ir45_r6 : IC := .reg [⟨some 24, none, false, .mv (.t 22)⟩,
  ⟨some 25, none, false, .iad 3 (.t 20) (.t 22)⟩,
  ⟨some 26, none, false, .lda 3 (.t 25)⟩,
  ⟨some 9, none, false, .alloc [(.int .i64 0), (.int .i64 0), (.int .i64 0)]⟩,
  ⟨some 8, none, false, .mv (.t 24)⟩,
  ⟨none, none, false, .st 3 (.t 9) (.t 26)⟩] (some [2, 3, 8, 9, 20, 21, 22])
def ir45_r7 : IC := .reg [⟨some 27, none, false, .fad 2 (.t 3)⟩,
  ⟨some 28, none, false, .ldc (.t 27)⟩,
  ⟨some 29, none, false, .mv (.t 8)⟩,
  ⟨some 30, none, false, .gen (.slice 32 (.tmp 28) none (some (.tmp 29)) none)⟩,
  ⟨some 31, none, false, .len (.t 30)⟩,
  ⟨some 32, none, false, .mv (.k (.int .i64 0))⟩] (some [2, 3, 8, 9, 20, 21, 22, 30, 31, 32])
def ir45_r8 : IC := .reg [⟨some 33, none, false, .cmp .lss (.t 32) (.t 31)⟩] (some [2, 3, 8, 9, 20, 21, 22, 30, 31, 32, 33])
def ir45_6 : IC := .cond (.t 33) .skip (.exit 2)
def ir45_r9 : IC := .reg [⟨some 34, none, false, .mv (.t 32)⟩,
  ⟨some 35, none, false, .iad 3 (.t 30) (.t 32)⟩,
  ⟨some 36, none, false, .lda 3 (.t 35)⟩,
  ⟨some 11, none, false, .alloc [(.int .i64 0), (.int .i64 0), (.int .i64 0)]⟩,
  ⟨some 10, none, false, .mv (.t 34)⟩,
  ⟨none, none, false, .st 3 (.t 11) (.t 36)⟩] (some [2, 3, 8, 9, 10, 11, 20, 21, 22, 30, 31, 32])
def ir45_r10 : IC := .reg [⟨some 37, none, false, .fad 0 (.t 9)⟩,
  ⟨some 38, none, false, .ldc (.t 37)⟩,
  ⟨some 39, none, false, .fad 0 (.t 11)⟩,
  ⟨some 40, none, false, .ldc (.t 39)⟩,
  ⟨some 41, none, false, .ar .sub (.t 38) (.t 40)⟩,
  ⟨some 12, none, false, .mv (.t 41)⟩] (some [2, 3, 8, 9, 10, 11, 12, 20, 21, 22, 30, 31, 32])
def ir45_r11 : IC := .reg [⟨some 42, none, false, .fad 1 (.t 11)⟩,
  ⟨some 43, none, false, .fad 1 (.t 42)⟩,
  ⟨some 44, none, false, .ldc (.t 43)⟩,
  ⟨some 45, none, false, .fad 110 (.t 2)⟩,
  ⟨some 46, none, false, .ldc (.t 45)⟩,
  ⟨some 47, none, false, .mv (.t 12)⟩,
  ⟨some 48, none, false, .ar .mul (.t 46) (.t 47)⟩,
  ⟨some 49, none, false, .ar .add (.t 44) (.t 48)⟩,
  ⟨some 50, none, false, .fad 1 (.t 9)⟩,
  ⟨some 51, none, false, .fad 0 (.t 50)⟩,
  ⟨some 52, none, false, .ldc (.t 51)⟩,
  ⟨some 53, none, false, .cmp .lss (.t 49) (.t 52)⟩,
  ⟨some 54, none, false, .mv (.t 53)⟩,
  ⟨some 55, some (54, false), false, .fad 1 (.t 11)⟩,
  ⟨some 56, some (54, false), false, .fad 0 (.t 55)⟩,
  ⟨some 57, some (54, false), false, .ldc (.t 56)⟩,
  ⟨some 58, some (54, false), false, .fad 111 (.t 2)⟩,
  ⟨some 59, some (54, false), false, .ldc (.t 58)⟩,
  ⟨some 60, some (54, false), false, .mv (.t 12)⟩,
  ⟨some 61, some (54, false), false, .ar .mul (.t 59) (.t 60)⟩,
  ⟨some 62, some (54, false), false, .ar .sub (.t 57) (.t 61)⟩,
  ⟨some 63, some (54, false), false, .fad 1 (.t 9)⟩,
  ⟨some 64, some (54, false), false, .fad 1 (.t 63)⟩,
  ⟨some 65, some (54, false), false, .ldc (.t 64)⟩,
  ⟨some 66, some (54, false), false, .cmp .gtr (.t 62) (.t 65)⟩,
  ⟨some 67, none, false, .pick (.t 54) (.k (.bool true)) (.t 66)⟩] (some [2, 3, 8, 9, 10, 20, 21, 22, 30, 31, 32, 67])
def ir45_r12 : IC := .reg [⟨some 68, none, false, .mv (.t 10)⟩,
  ⟨some 69, none, false, .mv (.t 8)⟩,
  ⟨some 4, none, false, .mv (.t 68)⟩,
  ⟨some 5, none, false, .mv (.t 69)⟩,
  ⟨some 6, none, false, .mv (.k (.int .i64 0))⟩] (some [4, 5, 6])
def ir45_7 : IC := .seq ir45_r12 .ret
def ir45_8 : IC := .cond (.t 67) ir45_7 .skip
def ir45_9 : IC := .seq ir45_r11 ir45_8
def ir45_10 : IC := .seq ir45_r10 ir45_9
def ir45_11 : IC := .seq ir45_r9 ir45_10
def ir45_12 : IC := .block 3 ir45_11
def ir45_r13 : IC := .reg [⟨some 70, none, false, .ar .add (.t 32) (.k (.int .i64 1))⟩,
  ⟨some 32, none, false, .mv (.t 70)⟩] (some [2, 3, 8, 9, 20, 21, 22, 30, 31, 32])
def ir45_13 : IC := .seq ir45_12 ir45_r13
def ir45_14 : IC := .seq ir45_6 ir45_13
def ir45_15 : IC := .seq ir45_r8 ir45_14
def ir45_16 : IC := .loop ir45_15
def ir45_17 : IC := .block 2 ir45_16
def ir45_18 : IC := .seq ir45_r7 ir45_17
def ir45_19 : IC := .seq ir45_r6 ir45_18
def ir45_20 : IC := .block 1 ir45_19
def ir45_r14 : IC := .reg [⟨some 71, none, false, .ar .add (.t 22) (.k (.int .i64 1))⟩,
  ⟨some 22, none, false, .mv (.t 71)⟩] (some [2, 3, 20, 21, 22])
def ir45_21 : IC := .seq ir45_20 ir45_r14
def ir45_22 : IC := .seq ir45_5 ir45_21
def ir45_23 : IC := .seq ir45_r5 ir45_22
def ir45_24 : IC := .loop ir45_23
def ir45_25 : IC := .block 0 ir45_24
def ir45_26 : IC := .seq ir45_r4 ir45_25
def ir45_r15 : IC := .reg [⟨some 4, none, false, .mv (.k (.int .i64 (-1)))⟩,
  ⟨some 5, none, false, .mv (.k (.int .i64 (-1)))⟩,
  ⟨some 6, none, false, .mv (.k (.int .i64 0))⟩] (some [4, 5, 6])
def ir45_27 : IC := .seq ir45_r15 .ret
def ir45_28 : IC := .seq ir45_26 ir45_27
def ir45_29 : IC := .seq ir45_4 ir45_28
def ir45_30 : IC := .seq ir45_r0 ir45_29
def ir45 : IC := ir45_30
theorem fn45 : FnIs Try.prog 45 ir45 72 [.tmp 4, .tmp 5, .tmp 6] := ⟨Try.f45, Try.f45.body.getD .skip, Try.func45, by kernel_rfl, by kernel_rfl, by kernel_rfl, by kernel_rfl⟩
section
variable {h : AH}
theorem meet_f (k o : Kn) (h0 : h.sees 0 = true) : Fc Try.prog 46 [kV k, kV o] h (kV (k.meet o)) h := by
  refine Fc.lift0 ?_ rfl rfl h0
  refine Fc.intro0 fn46 (by simp) rfl rfl ?_; simp only [argF]
  obtain ⟨kl, kh, ks⟩ := k
  obtain ⟨ol, oh, os⟩ := o
  unfold Kn.meet
  simp only
  refine ITri.seq ?_
  refine ITri.reg pok ?_; simp -implicitDefEqProofs (disch := first | decide | exact of_eq_true (eq_true rfl) | omega | assumption) only [ ↓vcD, vcE, ↓vcG, vcF, evs, evP, evB, intsOf, fillC, Value.cells, pt, Value.oneCell', reduceIte, reduceCtorEq, Nat.reduceEqDiff, Nat.reduceAdd, Nat.reduceMul, Nat.reduceLT, Nat.reduceBEq, Nat.reduceLeDiff, Nat.reduceSub] -- r0
  refine ITri.seq ?_
  refine ITri.block ?_ -- 0
  refine ITri.seq ?_
  cases os with
  | false =>
    rw [if_pos rfl]
    refine ITri.reg pok ?_; simp -implicitDefEqProofs (disch := first | decide | exact of_eq_true (eq_true rfl) | omega | assumption) only [Bool.not_false,  ↓vcD, vcE, ↓vcG, vcF, evs, evP, evB, intsOf, fillC, Value.cells, pt, Value.oneCell', reduceIte, reduceCtorEq, Nat.reduceEqDiff, Nat.reduceAdd, Nat.reduceMul, Nat.reduceLT, Nat.reduceBEq, Nat.reduceLeDiff, Nat.reduceSub] -- r1
    refine ITri.cond (v := true) rfl (fun _ => ?_) (fun h => by cases h)
    refine ITri.seq ?_
    refine ITri.reg pok ?_; simp -implicitDefEqProofs (disch := first | decide | exact of_eq_true (eq_true rfl) | omega | assumption) only [wr33,  ↓vcD, vcE, ↓vcG, vcF, evs, evP, evB, intsOf, fillC, Value.cells, pt, Value.oneCell', reduceIte, reduceCtorEq, Nat.reduceEqDiff, Nat.reduceAdd, Nat.reduceMul, Nat.reduceLT, Nat.reduceBEq, Nat.reduceLeDiff, Nat.reduceSub] -- r2
    refine ITri.ret ?_; exact EndR.plain (vs := [.agg ⟨[I6 kl, I6 kh, .bool ks]⟩]) (by simp) (resF_agg 3 rfl (by kernel_rfl) (by simp -implicitDefEqProofs (disch := first | decide | exact of_eq_true (eq_true rfl) | omega | assumption) only [↓vcD, vcE, ↓vcG, vcF, evs, evP, evB, intsOf, fillC, Value.cells, pt, Value.oneCell', reduceIte, reduceCtorEq, Nat.reduceEqDiff, Nat.reduceAdd, Nat.reduceMul, Nat.reduceLT, Nat.reduceBEq, Nat.reduceLeDiff, Nat.reduceSub]) resF_nil) (by rfl) (by rfl)
  | true =>
    rw [if_neg (by decide)]
    refine ITri.reg pok ?_; simp -implicitDefEqProofs (disch := first | decide | exact of_eq_true (eq_true rfl) | omega | assumption) only [Bool.not_true,  ↓vcD, vcE, ↓vcG, vcF, evs, evP, evB, intsOf, fillC, Value.cells, pt, Value.oneCell', reduceIte, reduceCtorEq, Nat.reduceEqDiff, Nat.reduceAdd, Nat.reduceMul, Nat.reduceLT, Nat.reduceBEq, Nat.reduceLeDiff, Nat.reduceSub] -- r1
    refine ITri.cond (v := false) rfl (fun h => by cases h) (fun _ => ?_)
    refine ITri.seq ?_
    cases ks with
    | false =>
      rw [if_pos rfl]
      refine ITri.reg pok ?_; simp -implicitDefEqProofs (disch := first | decide | exact of_eq_true (eq_true rfl) | omega | assumption) only [Bool.not_false,  ↓vcD, vcE, ↓vcG, vcF, evs, evP, evB, intsOf, fillC, Value.cells, pt, Value.oneCell', reduceIte, reduceCtorEq, Nat.reduceEqDiff, Nat.reduceAdd, Nat.reduceMul, Nat.reduceLT, Nat.reduceBEq, Nat.reduceLeDiff, Nat.reduceSub] -- r3
      refine ITri.cond (v := true) rfl (fun _ => ?_) (fun h => by cases h)
      refine ITri.seq ?_
      refine ITri.reg pok ?_; simp -implicitDefEqProofs (disch := first | decide | exact of_eq_true (eq_true rfl) | omega | assumption) only [wr33,  ↓vcD, vcE, ↓vcG, vcF, evs, evP, evB, intsOf, fillC, Value.cells, pt, Value.oneCell', reduceIte, reduceCtorEq, Nat.reduceEqDiff, Nat.reduceAdd, Nat.reduceMul, Nat.reduceLT, Nat.reduceBEq, Nat.reduceLeDiff, Nat.reduceSub] -- r4
      refine ITri.ret ?_; exact EndR.plain (vs := [.agg ⟨[I6 ol, I6 oh, .bool true]⟩]) (by simp) (resF_agg 3 rfl (by kernel_rfl) (by simp -implicitDefEqProofs (disch := first | decide | exact of_eq_true (eq_true rfl) | omega | assumption) only [↓vcD, vcE, ↓vcG, vcF, evs, evP, evB, intsOf, fillC, Value.cells, pt, Value.oneCell', reduceIte, reduceCtorEq, Nat.reduceEqDiff, Nat.reduceAdd, Nat.reduceMul, Nat.reduceLT, Nat.reduceBEq, Nat.reduceLeDiff, Nat.reduceSub]) resF_nil) (by rfl) (by rfl)
    | true =>
      rw [if_neg (by decide)]
      refine ITri.reg pok ?_; simp -implicitDefEqProofs (disch := first | decide | exact of_eq_true (eq_true rfl) | omega | assumption) only [Bool.not_true,  ↓vcD, vcE, ↓vcG, vcF, evs, evP, evB, intsOf, fillC, Value.cells, pt, Value.oneCell', reduceIte, reduceCtorEq, Nat.reduceEqDiff, Nat.reduceAdd, Nat.reduceMul, Nat.reduceLT, Nat.reduceBEq, Nat.reduceLeDiff, Nat.reduceSub] -- r3
      refine ITri.cond (v := false) rfl (fun h => by cases h) (fun _ => ?_); refine ITri.skip ?_; simp only [SeqQ_normal, BlkQ_normal]
      refine ITri.seq ?_
      refine ITri.reg pok ?_; simp -implicitDefEqProofs (disch := first | decide | exact of_eq_true (eq_true rfl) | omega | assumption) only [wr33,  ↓vcD, vcE, ↓vcG, vcF, evs, evP, evB, intsOf, fillC, Value.cells, pt, Value.oneCell', reduceIte, reduceCtorEq, Nat.reduceEqDiff, Nat.reduceAdd, Nat.reduceMul, Nat.reduceLT, Nat.reduceBEq, Nat.reduceLeDiff, Nat.reduceSub] -- r5
      refine ITri.ret ?_; exact EndR.plain (vs := [.agg ⟨[I6 (max kl ol), I6 (min kh oh), .bool true]⟩]) (by simp) (resF_agg 3 rfl (by kernel_rfl) (by simp -implicitDefEqProofs (disch := first | decide | exact of_eq_true (eq_true rfl) | omega | assumption) only [↓vcD, vcE, ↓vcG, vcF, evs, evP, evB, intsOf, fillC, Value.cells, pt, Value.oneCell', reduceIte, reduceCtorEq, Nat.reduceEqDiff, Nat.reduceAdd, Nat.reduceMul, Nat.reduceLT, Nat.reduceBEq, Nat.reduceLeDiff, Nat.reduceSub]) resF_nil) (by rfl) (by rfl)
theorem later_f (k : Kn) (g d : Int) (hk : smK k) (hg : 0 ≤ g ∧ g ≤ 1000000) (hd : 0 ≤ d ∧ d ≤ 1000000) (h0 : h.sees 0 = true) : Fc Try.prog 47 [kV k, I6 g, I6 d] h (kV (k.later g d)) h := by
  refine Fc.lift0 ?_ rfl rfl h0
  refine Fc.intro0 fn47 (by simp) rfl rfl ?_; simp only [argF]
  obtain ⟨kl, kh, ks⟩ := k
  unfold smK at hk
  simp only at hk
  unfold Kn.later
  simp only
  refine ITri.seq ?_
  refine ITri.reg pok ?_; simp -implicitDefEqProofs (disch := first | decide | exact of_eq_true (eq_true rfl) | omega | assumption) only [ ↓vcD, vcE, ↓vcG, vcF, evs, evP, evB, intsOf, fillC, Value.cells, pt, Value.oneCell', reduceIte, reduceCtorEq, Nat.reduceEqDiff, Nat.reduceAdd, Nat.reduceMul, Nat.reduceLT, Nat.reduceBEq, Nat.reduceLeDiff, Nat.reduceSub] -- r0
  refine ITri.seq ?_
  refine ITri.reg pok ?_; simp -implicitDefEqProofs (disch := first | decide | exact of_eq_true (eq_true rfl) | omega | assumption) only [wr33,  ↓vcD, vcE, ↓vcG, vcF, evs, evP, evB, intsOf, fillC, Value.cells, pt, Value.oneCell', reduceIte, reduceCtorEq, Nat.reduceEqDiff, Nat.reduceAdd, Nat.reduceMul, Nat.reduceLT, Nat.reduceBEq, Nat.reduceLeDiff, Nat.reduceSub] -- r1
  refine ITri.ret ?_; exact EndR.plain (vs := [.agg ⟨[I6 (kl - d), I6 (kh + g), .bool ks]⟩]) (by simp) (resF_agg 3 rfl (by kernel_rfl) (by simp -implicitDefEqProofs (disch := first | decide | exact of_eq_true (eq_true rfl) | omega | assumption) only [↓vcD, vcE, ↓vcG, vcF, evs, evP, evB, intsOf, fillC, Value.cells, pt, Value.oneCell', reduceIte, reduceCtorEq, Nat.reduceEqDiff, Nat.reduceAdd, Nat.reduceMul, Nat.reduceLT, Nat.reduceBEq, Nat.reduceLeDiff, Nat.reduceSub]) resF_nil) (by rfl) (by rfl)
theorem ceil_f (a b : Int) (ha : 0 ≤ a ∧ a ≤ 1000000000000000000) (hb : 0 < b ∧ b ≤ 2000000) (h0 : h.sees 0 = true) : Fc Try.prog 66 [I6 a, I6 b] h (I6 (ceilI a b)) h := by
  refine Fc.lift0 ?_ rfl rfl h0
  refine Fc.intro0 fn66 (by simp) rfl rfl ?_; simp only [argF]
  unfold ceilI
  have hb0 : b ≠ 0 := by omega
  refine ITri.seq ?_
  refine ITri.reg pok ?_; simp -implicitDefEqProofs (disch := first | decide | exact of_eq_true (eq_true rfl) | omega | assumption) only [ ↓vcD, vcE, ↓vcG, vcF, evs, evP, evB, intsOf, fillC, Value.cells, pt, Value.oneCell', reduceIte, reduceCtorEq, Nat.reduceEqDiff, Nat.reduceAdd, Nat.reduceMul, Nat.reduceLT, Nat.reduceBEq, Nat.reduceLeDiff, Nat.reduceSub] -- r0
  refine ITri.seq ?_
  refine ITri.seq ?_
  by_cases c : a > 0
  · rw [if_pos c]
    have d1 := dvI_quo (a := a + b - 1) (b := b) (by omega)
    have q0 : 0 ≤ (a + b - 1) / b := Int.ediv_nonneg (by omega) (by omega)
    have q1 : (a + b - 1) / b ≤ a + b - 1 := Int.ediv_le_self b (by omega)
    generalize (a + b - 1) / b = z at *
    refine ITri.reg pok ?_; simp -implicitDefEqProofs (disch := first | decide | exact of_eq_true (eq_true rfl) | omega | assumption) only [c, decide_true,  ↓vcD, vcE, ↓vcG, vcF, evs, evP, evB, intsOf, fillC, Value.cells, pt, Value.oneCell', reduceIte, reduceCtorEq, Nat.reduceEqDiff, Nat.reduceAdd, Nat.reduceMul, Nat.reduceLT, Nat.reduceBEq, Nat.reduceLeDiff, Nat.reduceSub] -- r1
    refine ITri.cond (v := true) rfl (fun _ => ?_) (fun h => by cases h)
    refine ITri.seq ?_
    refine ITri.reg pok ?_; simp -implicitDefEqProofs (disch := first | decide | exact of_eq_true (eq_true rfl) | omega | assumption) only [d1,  ↓vcD, vcE, ↓vcG, vcF, evs, evP, evB, intsOf, fillC, Value.cells, pt, Value.oneCell', reduceIte, reduceCtorEq, Nat.reduceEqDiff, Nat.reduceAdd, Nat.reduceMul, Nat.reduceLT, Nat.reduceBEq, Nat.reduceLeDiff, Nat.reduceSub] -- r2
    refine ITri.ret ?_; exact EndR.plain (by simp) (by rfl) (by rfl) (by rfl)
  · rw [if_neg c]
    obtain rfl : a = 0 := by omega
    have d1 : dvI .quo 0 b = 0 := by rw [dvI_quo (Int.le_refl _)]; exact Int.zero_ediv b
    refine ITri.reg pok ?_; simp -implicitDefEqProofs (disch := first | decide | exact of_eq_true (eq_true rfl) | omega | assumption) only [c, decide_false,  ↓vcD, vcE, ↓vcG, vcF, evs, evP, evB, intsOf, fillC, Value.cells, pt, Value.oneCell', reduceIte, reduceCtorEq, Nat.reduceEqDiff, Nat.reduceAdd, Nat.reduceMul, Nat.reduceLT, Nat.reduceBEq, Nat.reduceLeDiff, Nat.reduceSub] -- r1
    refine ITri.cond (v := false) rfl (fun h => by cases h) (fun _ => ?_); refine ITri.skip ?_; simp only [SeqQ_normal, BlkQ_normal]
    refine ITri.seq ?_
    refine ITri.reg pok ?_; simp -implicitDefEqProofs (disch := first | decide | exact of_eq_true (eq_true rfl) | omega | assumption) only [d1,  ↓vcD, vcE, ↓vcG, vcF, evs, evP, evB, intsOf, fillC, Value.cells, pt, Value.oneCell', reduceIte, reduceCtorEq, Nat.reduceEqDiff, Nat.reduceAdd, Nat.reduceMul, Nat.reduceLT, Nat.reduceBEq, Nat.reduceLeDiff, Nat.reduceSub] -- r3
    refine ITri.ret ?_; exact EndR.plain (by simp) (by rfl) (by rfl) (by rfl)
theorem peak_f (a up b down : Int) (ha : -2000000000 ≤ a ∧ a ≤ 2000000000) (hb : -2000000000 ≤ b ∧ b ≤ 2000000000) (hu : 0 ≤ up ∧ up ≤ 1000000) (hd : 0 ≤ down ∧ down ≤ 1000000) (h0 : h.sees 0 = true) : Fc Try.prog 49 [I6 a, I6 up, I6 b, I6 down] h (I6 (peakI a up b down)) h := by
  refine Fc.lift0 ?_ rfl rfl h0
  refine Fc.intro0 fn49 (by simp) rfl rfl ?_; simp only [argF]
  unfold peakI
  refine ITri.seq ?_
  refine ITri.reg pok ?_; simp -implicitDefEqProofs (disch := first | decide | exact of_eq_true (eq_true rfl) | omega | assumption) only [ ↓vcD, vcE, ↓vcG, vcF, evs, evP, evB, intsOf, fillC, Value.cells, pt, Value.oneCell', reduceIte, reduceCtorEq, Nat.reduceEqDiff, Nat.reduceAdd, Nat.reduceMul, Nat.reduceLT, Nat.reduceBEq, Nat.reduceLeDiff, Nat.reduceSub] -- r0
  refine ITri.seq ?_
  refine ITri.reg pok ?_; simp -implicitDefEqProofs (disch := first | decide | exact of_eq_true (eq_true rfl) | omega | assumption) only [ ↓vcD, vcE, ↓vcG, vcF, evs, evP, evB, intsOf, fillC, Value.cells, pt, Value.oneCell', reduceIte, reduceCtorEq, Nat.reduceEqDiff, Nat.reduceAdd, Nat.reduceMul, Nat.reduceLT, Nat.reduceBEq, Nat.reduceLeDiff, Nat.reduceSub] -- r1
  refine ITri.seq ?_
  refine ITri.block ?_ -- 0
  refine ITri.seq ?_
  by_cases c1 : a ≥ b + down
  · rw [if_pos c1]
    refine ITri.reg pok ?_; simp -implicitDefEqProofs (disch := first | decide | exact of_eq_true (eq_true rfl) | omega | assumption) only [c1, decide_true,  ↓vcD, vcE, ↓vcG, vcF, evs, evP, evB, intsOf, fillC, Value.cells, pt, Value.oneCell', reduceIte, reduceCtorEq, Nat.reduceEqDiff, Nat.reduceAdd, Nat.reduceMul, Nat.reduceLT, Nat.reduceBEq, Nat.reduceLeDiff, Nat.reduceSub] -- r2
    refine ITri.cond (v := true) rfl (fun _ => ?_) (fun h => by cases h)
    refine ITri.seq ?_
    refine ITri.reg pok ?_; simp -implicitDefEqProofs (disch := first | decide | exact of_eq_true (eq_true rfl) | omega | assumption) only [ ↓vcD, vcE, ↓vcG, vcF, evs, evP, evB, intsOf, fillC, Value.cells, pt, Value.oneCell', reduceIte, reduceCtorEq, Nat.reduceEqDiff, Nat.reduceAdd, Nat.reduceMul, Nat.reduceLT, Nat.reduceBEq, Nat.reduceLeDiff, Nat.reduceSub] -- r3
    refine ITri.ret ?_; exact EndR.plain (by simp) (by rfl) (by rfl) (by rfl)
  rw [if_neg c1]
  refine ITri.reg pok ?_; simp -implicitDefEqProofs (disch := first | decide | exact of_eq_true (eq_true rfl) | omega | assumption) only [c1, decide_false,  ↓vcD, vcE, ↓vcG, vcF, evs, evP, evB, intsOf, fillC, Value.cells, pt, Value.oneCell', reduceIte, reduceCtorEq, Nat.reduceEqDiff, Nat.reduceAdd, Nat.reduceMul, Nat.reduceLT, Nat.reduceBEq, Nat.reduceLeDiff, Nat.reduceSub] -- r2
  refine ITri.cond (v := false) rfl (fun h => by cases h) (fun _ => ?_)
  refine ITri.seq ?_
  by_cases c2 : a + up ≤ b
  · rw [if_pos c2]
    refine ITri.reg pok ?_; simp -implicitDefEqProofs (disch := first | decide | exact of_eq_true (eq_true rfl) | omega | assumption) only [c2, decide_true,  ↓vcD, vcE, ↓vcG, vcF, evs, evP, evB, intsOf, fillC, Value.cells, pt, Value.oneCell', reduceIte, reduceCtorEq, Nat.reduceEqDiff, Nat.reduceAdd, Nat.reduceMul, Nat.reduceLT, Nat.reduceBEq, Nat.reduceLeDiff, Nat.reduceSub] -- r4
    refine ITri.cond (v := true) rfl (fun _ => ?_) (fun h => by cases h)
    refine ITri.seq ?_
    refine ITri.reg pok ?_; simp -implicitDefEqProofs (disch := first | decide | exact of_eq_true (eq_true rfl) | omega | assumption) only [ ↓vcD, vcE, ↓vcG, vcF, evs, evP, evB, intsOf, fillC, Value.cells, pt, Value.oneCell', reduceIte, reduceCtorEq, Nat.reduceEqDiff, Nat.reduceAdd, Nat.reduceMul, Nat.reduceLT, Nat.reduceBEq, Nat.reduceLeDiff, Nat.reduceSub] -- r5
    refine ITri.ret ?_; exact EndR.plain (by simp) (by rfl) (by rfl) (by rfl)
  rw [if_neg c2]
  refine ITri.reg pok ?_; simp -implicitDefEqProofs (disch := first | decide | exact of_eq_true (eq_true rfl) | omega | assumption) only [c2, decide_false,  ↓vcD, vcE, ↓vcG, vcF, evs, evP, evB, intsOf, fillC, Value.cells, pt, Value.oneCell', reduceIte, reduceCtorEq, Nat.reduceEqDiff, Nat.reduceAdd, Nat.reduceMul, Nat.reduceLT, Nat.reduceBEq, Nat.reduceLeDiff, Nat.reduceSub] -- r4
  refine ITri.cond (v := false) rfl (fun h => by cases h) (fun _ => ?_); refine ITri.skip ?_; simp only [SeqQ_normal, BlkQ_normal]
  refine ITri.seq ?_
  have m0 : 0 ≤ up * (b + down - a) := Int.mul_nonneg hu.1 (by omega)
  have m1 : up * (b + down - a) ≤ 1000000 * 5000000000 := Int.mul_le_mul hu.2 (by omega) (by omega) (by omega)
  have k0 := @ceil_nn (up * (b + down - a)) (up + down) (by omega)
  have k1 : ceilI (up * (b + down - a)) (up + down) ≤ up * (b + down - a) + (up + down) := by
    unfold ceilI
    split
    · have := Int.ediv_le_self (up + down) (show 0 ≤ up * (b + down - a) + (up + down) - 1 by omega)
      omega
    · omega
  refine ITri.reg pok ?_; simp -implicitDefEqProofs (disch := first | decide | exact of_eq_true (eq_true rfl) | omega | assumption) only [ ↓vcD, vcE, ↓vcG, vcF, evs, evP, evB, intsOf, fillC, Value.cells, pt, Value.oneCell', reduceIte, reduceCtorEq, Nat.reduceEqDiff, Nat.reduceAdd, Nat.reduceMul, Nat.reduceLT, Nat.reduceBEq, Nat.reduceLeDiff, Nat.reduceSub] -- r6
  refine ⟨_, _, ceil_f _ _ ⟨m0, by omega⟩ ⟨by omega, by omega⟩ (sees0 rfl (of_decide_eq_true rfl)), ?_⟩
  generalize ceilI (up * (b + down - a)) (up + down) = z at *
  try simp -implicitDefEqProofs (disch := first | decide | exact of_eq_true (eq_true rfl) | omega | assumption) only [ ↓vcD, vcE, ↓vcG, vcF, evs, evP, evB, intsOf, fillC, Value.cells, pt, Value.oneCell', reduceIte, reduceCtorEq, Nat.reduceEqDiff, Nat.reduceAdd, Nat.reduceMul, Nat.reduceLT, Nat.reduceBEq, Nat.reduceLeDiff, Nat.reduceSub]
  refine ITri.ret ?_; exact EndR.plain (by simp) (by rfl) (by rfl) (by rfl)
end
/-- Two samples that contradict each other. -/
def cfl (S : List Sm) (g s : Int) (j i : Nat) : Prop := (nth S i).h + g * ((nth S j).a - (nth S i).a) < (nth S j).l ∨ (nth S i).l - s * ((nth S j).a - (nth S i).a) > (nth S j).h
/-- What Conflict says: nothing, or the first pair. -/
def cfV (S : List Sm) (g s : Int) (a b : Int) : Prop := ((∀ j, j < S.length → ∀ i, i < j → ¬ cfl S g s j i) ∧ a = -1 ∧ b = -1) ∨ ∃ i0 j0 : Nat, a = i0 ∧ b = j0 ∧ i0 < j0 ∧ j0 < S.length ∧ cfl S g s j0 i0 ∧ (∀ j, j < j0 → ∀ i, i < j → ¬ cfl S g s j i) ∧ ∀ i, i < i0 → ¬ cfl S g s j0 i
theorem cfV_ex (S : List Sm) (g s : Int) : ∃ a b, cfV S g s a b := by
  by_cases h : ∀ j, j < S.length → ∀ i, i < j → ¬ cfl S g s j i
  · exact ⟨-1, -1, .inl ⟨h, rfl, rfl⟩⟩
  · have h1 : ∃ j, j < S.length ∧ ∃ i, i < j ∧ cfl S g s j i := by
      apply Classical.byContradiction
      intro hc
      exact h fun j hj i hi hcf => hc ⟨j, hj, i, hi, hcf⟩
    have least : ∀ (p : Nat → Prop), (∃ n, p n) → ∃ n, p n ∧ ∀ m, m < n → ¬ p m := fun p hp => by
      obtain ⟨n, hn⟩ := hp
      induction n using Nat.strongRecOn with
      | ind n ih =>
        by_cases c : ∃ m, m < n ∧ p m
        · obtain ⟨m, hm, hpm⟩ := c
          exact ih m hm hpm
        · exact ⟨n, hn, fun m hm hpm => c ⟨m, hm, hpm⟩⟩
    obtain ⟨j0, ⟨hj0, i1, hi1, hc1⟩, hmin⟩ := least _ h1
    obtain ⟨i0, ⟨hi0, hc0⟩, hmin2⟩ := least (fun i => i < j0 ∧ cfl S g s j0 i) ⟨i1, hi1, hc1⟩
    exact ⟨i0, j0, .inr ⟨i0, j0, rfl, rfl, hi0, hj0, hc0, fun j hj i hi hc => hmin j hj ⟨by omega, i, hi, hc⟩, fun i hi hc => hmin2 i hi ⟨by omega, hc⟩⟩⟩
theorem cfV_nn {S : List Sm} {g s a b : Int} (h : cfV S g s a b) (ha : ¬ a = -1) : 0 ≤ a := by
  rcases h with ⟨_, h, _⟩ | ⟨i0, j0, rfl, _⟩
  · exact absurd h ha
  · omega
theorem u_smp : Try.prog.underlying 32 = some (.slice 122) := by kernel_rfl
theorem i_smp : Try.prog.info? 122 = some ((Try.prog.info? 122).get rfl) := by kernel_rfl
section
variable {T : List St} {S : List Sm} {X : List (Int × Int)} {E : Int} {nT nS nX : Nat} {ps : List Int} {a b : Int}
set_option maxHeartbeats 1000000 in
theorem conflict_c (hl : ps.length = 117) (hT : T.length = nT) (hS : S.length = nS) (hX : X.length = nX) (hb : E < 9223372036854775807) (hp : pulOK ps) (hr : runOK T S X E) (hv : cfV S (nth ps 110) (nth ps 111) a b) :
    Fc Try.prog 45 [.agg ⟨rows eI ps⟩, ruV (sO 1 nT) (sO 2 nS) (sO 3 nX) E] (Hp 4 (M4 T S X)) (.tuple #[I6 a, I6 b, I6 0]) (Hp 4 (M4 T S X)) := by
  refine Fc.intro0 fn45 (by simp) rfl rfl ?_; simp only [argF]
  have hall1 : (rows eI ps).all Value.oneCell' = true := rows_one' (f := eI) ps
  have t117 := takeC_0 (rows eI ps) 117 (by rw [rows_len (f := eI), hl])
  have g110 := getI (xs := ps) (i := 110) (by omega)
  have g111 := getI (xs := ps) (i := 111) (by omega)
  have hgs := in_2 hp.g
  refine ITri.seq ?_
  refine ITri.reg pok ?_; simp -implicitDefEqProofs (disch := first | decide | exact of_eq_true (eq_true rfl) | omega | assumption) only [hall1,  ↓vcD, vcE, ↓vcG, vcF, evs, evP, evB, intsOf, fillC, Value.cells, pt, Value.oneCell', reduceIte, reduceCtorEq, Nat.reduceEqDiff, Nat.reduceAdd, Nat.reduceMul, Nat.reduceLT, Nat.reduceBEq, Nat.reduceLeDiff, Nat.reduceSub] -- r0
  refine ITri.seq ?_
  refine ITri.seq ?_
  refine ITri.reg pok ?_; simp -implicitDefEqProofs (disch := first | decide | exact of_eq_true (eq_true rfl) | omega | assumption) only [t117,  ↓vcD, vcE, ↓vcG, vcF, evs, evP, evB, intsOf, fillC, Value.cells, pt, Value.oneCell', reduceIte, reduceCtorEq, Nat.reduceEqDiff, Nat.reduceAdd, Nat.reduceMul, Nat.reduceLT, Nat.reduceBEq, Nat.reduceLeDiff, Nat.reduceSub] -- r1
  refine ⟨_, _, both_f (e := 0) hl hT hS hX hb (.inl ⟨hp, hr, rfl⟩) (sees0 rfl (of_decide_eq_true rfl)) (Rd.hq rfl rfl) (Rd.hq rfl rfl) (Rd.hq rfl rfl), ?_⟩
  try simp -implicitDefEqProofs (disch := first | decide | exact of_eq_true (eq_true rfl) | omega | assumption) only [ ↓vcD, vcE, ↓vcG, vcF, evs, evP, evB, intsOf, fillC, Value.cells, pt, Value.oneCell', reduceIte, reduceCtorEq, Nat.reduceEqDiff, Nat.reduceAdd, Nat.reduceMul, Nat.reduceLT, Nat.reduceBEq, Nat.reduceLeDiff, Nat.reduceSub]
  refine ITri.seq ?_
  refine ITri.reg pok ?_; simp -implicitDefEqProofs (disch := first | decide | exact of_eq_true (eq_true rfl) | omega | assumption) only [decide_true, Bool.not_true,  ↓vcD, vcE, ↓vcG, vcF, evs, evP, evB, intsOf, fillC, Value.cells, pt, Value.oneCell', reduceIte, reduceCtorEq, Nat.reduceEqDiff, Nat.reduceAdd, Nat.reduceMul, Nat.reduceLT, Nat.reduceBEq, Nat.reduceLeDiff, Nat.reduceSub] -- r2
  refine ITri.cond (v := false) rfl (fun h => by cases h) (fun _ => ?_); refine ITri.skip ?_; simp only [SeqQ_normal, BlkQ_normal]
  have b100 := hr.s1
  have hsm : ∀ i, i < nS → 0 ≤ (nth S i).a ∧ (nth S i).a ≤ 100000 ∧ 0 ≤ (nth S i).l ∧ (nth S i).l ≤ (nth S i).h ∧ (nth S i).h ≤ 1000000 := fun i hi => by
    have h1 := hr.s i (by omega)
    have h2 := nxS_nn (i := i) fun j hj => hr.s j (by omega)
    have h3 := rg_1 h1.2.2
    have h4 := h1.1
    have h5 := h1.2.1
    have h6 := hr.e1
    omega
  have mb : ∀ x y : Int, 0 ≤ x → x ≤ 1000000 → -100000 ≤ y → y ≤ 100000 → -100000000000 ≤ x * y ∧ x * y ≤ 100000000000 := fun x y a b c d => by
    have h1 : x * y ≤ x * 100000 := Int.mul_le_mul_of_nonneg_left d a
    have h2 : x * (-100000) ≤ x * y := Int.mul_le_mul_of_nonneg_left c a
    omega
  generalize hgg : nth ps 110 = g at *
  generalize hss : nth ps 111 = s at *
  refine ITri.seq ?_
  refine ITri.seq ?_
  refine ITri.reg pok ?_; simp -implicitDefEqProofs (disch := first | decide | exact of_eq_true (eq_true rfl) | omega | assumption) only [ ↓vcD, vcE, ↓vcG, vcF, evs, evP, evB, intsOf, fillC, Value.cells, pt, Value.oneCell', reduceIte, reduceCtorEq, Nat.reduceEqDiff, Nat.reduceAdd, Nat.reduceMul, Nat.reduceLT, Nat.reduceBEq, Nat.reduceLeDiff, Nat.reduceSub] -- r4
  refine ITri.block ?_ -- 0
  refine ITri.loop (fun k : Nat => [(2, pt 4), (3, pt 5), (20, sO 2 nS), (21, .int .i64 nS), (22, .int .i64 k)]) (fun _ => []) (fun k => Hp 4 [none, some (.cells ⟨rows eT T, 0, false⟩), some (.cells ⟨rows eM S, 0, false⟩), some (.cells ⟨rows eII X, 0, false⟩), some (.cells ⟨rows eI ps, 1, false⟩), some (.cells ⟨[sO 1 nT, I6 E, sO 2 nS, sO 3 nX], 1, false⟩)]) (fun k => k ≤ nS ∧ ∀ j, j < k → ∀ i, i < j → ¬ cfl S g s j i) (fun k => nS - k) 0 ⟨Nat.zero_le _, fun j hj => by omega⟩ (Wk.sub ⟨rfl, rfl, rfl, rfl, rfl, trivial⟩) fun j hk => ?_
  obtain ⟨hk, hj⟩ := hk
  refine ITri.seq ?_
  refine ITri.reg pok ?_; simp -implicitDefEqProofs (disch := first | decide | exact of_eq_true (eq_true rfl) | omega | assumption) only [ ↓vcD, vcE, ↓vcG, vcF, evs, evP, evB, intsOf, fillC, Value.cells, pt, Value.oneCell', reduceIte, reduceCtorEq, Nat.reduceEqDiff, Nat.reduceAdd, Nat.reduceMul, Nat.reduceLT, Nat.reduceBEq, Nat.reduceLeDiff, Nat.reduceSub] -- r5
  refine ITri.seq ?_
  refine ITri.condD (by rfl) (fun h3 => ?_) (fun h3 => ?_) -- %23
  · have hkn : j < nS := by omega
    have g1 := takeM (xs := S) (i := j) (by omega)
    have bj := hsm j hkn
    have hj1 : (j : Int) + 1 = ((j + 1 : Nat) : Int) := by omega
    refine ITri.skip ?_; simp only [SeqQ_normal, BlkQ_normal]
    refine ITri.seq ?_
    refine ITri.block ?_ -- 1
    refine ITri.seq ?_
    refine ITri.reg pok ?_; simp -implicitDefEqProofs (disch := first | decide | exact of_eq_true (eq_true rfl) | omega | assumption) only [g1,  ↓vcD, vcE, ↓vcG, vcF, evs, evP, evB, intsOf, fillC, Value.cells, pt, Value.oneCell', reduceIte, reduceCtorEq, Nat.reduceEqDiff, Nat.reduceAdd, Nat.reduceMul, Nat.reduceLT, Nat.reduceBEq, Nat.reduceLeDiff, Nat.reduceSub] -- r6
    refine ITri.seq ?_
    refine ITri.reg pok ?_; simp -implicitDefEqProofs (disch := first | decide | exact of_eq_true (eq_true rfl) | omega | assumption) only [ ↓vcD, vcE, ↓vcG, vcF, evs, evP, evB, intsOf, fillC, Value.cells, pt, Value.oneCell', reduceIte, reduceCtorEq, Nat.reduceEqDiff, Nat.reduceAdd, Nat.reduceMul, Nat.reduceLT, Nat.reduceBEq, Nat.reduceLeDiff, Nat.reduceSub] -- r7
    refine gen_to u_smp i_smp rfl rfl (by omega) ?_
    try simp -implicitDefEqProofs (disch := first | decide | exact of_eq_true (eq_true rfl) | omega | assumption) only [ ↓vcD, vcE, ↓vcG, vcF, evs, evP, evB, intsOf, fillC, Value.cells, pt, Value.oneCell', reduceIte, reduceCtorEq, Nat.reduceEqDiff, Nat.reduceAdd, Nat.reduceMul, Nat.reduceLT, Nat.reduceBEq, Nat.reduceLeDiff, Nat.reduceSub]
    refine ITri.block ?_ -- 2
    refine ITri.loop (fun i : Nat => [(2, pt 4), (3, pt 5), (8, .int .i64 j), (9, pt 6), (20, sO 2 nS), (21, .int .i64 nS), (22, .int .i64 j), (30, sO 2 j), (31, .int .i64 j), (32, .int .i64 i)]) (fun _ => []) (fun i => Hp 4 [none, some (.cells ⟨rows eT T, 0, false⟩), some (.cells ⟨rows eM S, 0, false⟩), some (.cells ⟨rows eII X, 0, false⟩), some (.cells ⟨rows eI ps, 1, false⟩), some (.cells ⟨[sO 1 nT, I6 E, sO 2 nS, sO 3 nX], 1, false⟩), some (.cells ⟨[I6 (nth S j).a, I6 (nth S j).l, I6 (nth S j).h], 1, false⟩)]) (fun i => i ≤ j ∧ ∀ i', i' < i → ¬ cfl S g s j i') (fun i => j - i) 0 ⟨Nat.zero_le _, fun j hj => by omega⟩ (Wk.gc [0, 1, 2, 3, 4, 5, 6] [] (of_decide_eq_true rfl) (of_decide_eq_true rfl) rfl rfl (of_decide_eq_true rfl) rfl rfl (by repeat (first | exact xiOK_nil | refine xiOK_cons (by first | trivial | exact roomOK _ (by decide)) ?_)) rfl (by simp -implicitDefEqProofs (disch := first | decide | exact of_eq_true (eq_true rfl) | omega | assumption) only [wr33, objOK, sgL, xiL, objAt, nilO, OM, mvL, mv, mvS, okS, okP, mvL_rows, okML, okM, okML_rows, List.getElem?_cons_zero, Option.getD_some, implies_true, imp_self, ne_eq, and_self, true_or, or_true, Nat.zero_mul, Nat.sub_self, openB_self, ↓vcD, vcE, ↓vcG, vcF, evs, evP, evB, intsOf, fillC, Value.cells, pt, Value.oneCell', reduceIte, reduceCtorEq, Nat.reduceEqDiff, Nat.reduceAdd, Nat.reduceMul, Nat.reduceLT, Nat.reduceBEq, Nat.reduceLeDiff, Nat.reduceSub]) (by simp -implicitDefEqProofs (disch := first | decide | exact of_eq_true (eq_true rfl) | omega | assumption) only [wr33, valOK, sgL, xiL, mv, mvA, mvL, mvS, okS, okP, okM, okMA, okML, Option.getD_some, implies_true, and_self, true_or, or_true, Int.natCast_add, Int.cast_ofNat_Int, Nat.zero_mul, Nat.sub_self, openB_self, ↓vcD, vcE, ↓vcG, vcF, evs, evP, evB, intsOf, fillC, Value.cells, pt, Value.oneCell', reduceIte, reduceCtorEq, Nat.reduceEqDiff, Nat.reduceAdd, Nat.reduceMul, Nat.reduceLT, Nat.reduceBEq, Nat.reduceLeDiff, Nat.reduceSub]) (fun _ h => by cases h) ⟨rfl, fun _ h => by cases h⟩) fun i hi => ?_
    obtain ⟨hi, hic⟩ := hi
    refine ITri.seq ?_
    refine ITri.reg pok ?_; simp -implicitDefEqProofs (disch := first | decide | exact of_eq_true (eq_true rfl) | omega | assumption) only [ ↓vcD, vcE, ↓vcG, vcF, evs, evP, evB, intsOf, fillC, Value.cells, pt, Value.oneCell', reduceIte, reduceCtorEq, Nat.reduceEqDiff, Nat.reduceAdd, Nat.reduceMul, Nat.reduceLT, Nat.reduceBEq, Nat.reduceLeDiff, Nat.reduceSub] -- r8
    refine ITri.seq ?_
    refine ITri.condD (by rfl) (fun h5 => ?_) (fun h5 => ?_) -- %33
    · have hij : i < j := by omega
      have g2 := takeM (xs := S) (i := i) (by omega)
      have bi := hsm i (by omega)
      have hi1 : (i : Int) + 1 = ((i + 1 : Nat) : Int) := by omega
      have m1 := mb g ((nth S j).a - (nth S i).a) hgs.1.1 hgs.1.2 (by omega) (by omega)
      have m2 := mb s ((nth S j).a - (nth S i).a) hgs.2.1 hgs.2.2 (by omega) (by omega)
      have ecf : cfl S g s j i = ((nth S i).h + g * ((nth S j).a - (nth S i).a) < (nth S j).l ∨ (nth S i).l - s * ((nth S j).a - (nth S i).a) > (nth S j).h) := rfl
      have hit : cfl S g s j i → a = i ∧ b = j := fun hc => by
        rcases hv with ⟨h, _⟩ | ⟨i0, j0, rfl, rfl, q1, q2, q3, q4, q5⟩
        · exact absurd hc (h j (by omega) i hij)
        · have e1 : j0 = j := by
            rcases Nat.lt_trichotomy j0 j with c | c | c
            · exact absurd q3 (hj j0 c i0 q1)
            · exact c
            · exact absurd hc (q4 j c i hij)
          subst e1
          have e2 : i0 = i := by
            rcases Nat.lt_trichotomy i0 i with c | c | c
            · exact absurd q3 (hic i0 c)
            · exact c
            · exact absurd hc (q5 i c)
          rw [e2]; exact ⟨rfl, rfl⟩
      refine ITri.skip ?_; simp only [SeqQ_normal, BlkQ_normal]
      refine ITri.seq ?_
      refine ITri.block ?_ -- 3
      refine ITri.seq ?_
      refine ITri.reg pok ?_; simp -implicitDefEqProofs (disch := first | decide | exact of_eq_true (eq_true rfl) | omega | assumption) only [g2, wr33,  ↓vcD, vcE, ↓vcG, vcF, evs, evP, evB, intsOf, fillC, Value.cells, pt, Value.oneCell', reduceIte, reduceCtorEq, Nat.reduceEqDiff, Nat.reduceAdd, Nat.reduceMul, Nat.reduceLT, Nat.reduceBEq, Nat.reduceLeDiff, Nat.reduceSub] -- r9
      refine ITri.seq ?_
      refine ITri.reg pok ?_; simp -implicitDefEqProofs (disch := first | decide | exact of_eq_true (eq_true rfl) | omega | assumption) only [ ↓vcD, vcE, ↓vcG, vcF, evs, evP, evB, intsOf, fillC, Value.cells, pt, Value.oneCell', reduceIte, reduceCtorEq, Nat.reduceEqDiff, Nat.reduceAdd, Nat.reduceMul, Nat.reduceLT, Nat.reduceBEq, Nat.reduceLeDiff, Nat.reduceSub] -- r10
      refine ITri.seq ?_
      by_cases d1 : (nth S i).h + g * ((nth S j).a - (nth S i).a) < (nth S j).l
      · obtain ⟨rfl, rfl⟩ := hit (by rw [ecf]; exact .inl d1)
        refine ITri.reg pok ?_; simp -implicitDefEqProofs (disch := first | decide | exact of_eq_true (eq_true rfl) | omega | assumption) only [g110, g111, hgg, hss, d1, decide_true,  ↓vcD, vcE, ↓vcG, vcF, evs, evP, evB, intsOf, fillC, Value.cells, pt, Value.oneCell', reduceIte, reduceCtorEq, Nat.reduceEqDiff, Nat.reduceAdd, Nat.reduceMul, Nat.reduceLT, Nat.reduceBEq, Nat.reduceLeDiff, Nat.reduceSub] -- r11
        refine ITri.cond (v := true) rfl (fun _ => ?_) (fun h => by cases h)
        refine ITri.seq ?_
        refine ITri.reg pok ?_; simp -implicitDefEqProofs (disch := first | decide | exact of_eq_true (eq_true rfl) | omega | assumption) only [ ↓vcD, vcE, ↓vcG, vcF, evs, evP, evB, intsOf, fillC, Value.cells, pt, Value.oneCell', reduceIte, reduceCtorEq, Nat.reduceEqDiff, Nat.reduceAdd, Nat.reduceMul, Nat.reduceLT, Nat.reduceBEq, Nat.reduceLeDiff, Nat.reduceSub] -- r12
        refine ITri.ret ?_; exact EndR.plain (by simp) (by rfl) (by rfl) (by rfl)
      by_cases d2 : (nth S i).l - s * ((nth S j).a - (nth S i).a) > (nth S j).h
      · obtain ⟨rfl, rfl⟩ := hit (by rw [ecf]; exact .inr d2)
        refine ITri.reg pok ?_; simp -implicitDefEqProofs (disch := first | decide | exact of_eq_true (eq_true rfl) | omega | assumption) only [g110, g111, hgg, hss, d1, d2, decide_true, decide_false,  ↓vcD, vcE, ↓vcG, vcF, evs, evP, evB, intsOf, fillC, Value.cells, pt, Value.oneCell', reduceIte, reduceCtorEq, Nat.reduceEqDiff, Nat.reduceAdd, Nat.reduceMul, Nat.reduceLT, Nat.reduceBEq, Nat.reduceLeDiff, Nat.reduceSub] -- r11
        refine ITri.cond (v := true) rfl (fun _ => ?_) (fun h => by cases h)
        refine ITri.seq ?_
        refine ITri.reg pok ?_; simp -implicitDefEqProofs (disch := first | decide | exact of_eq_true (eq_true rfl) | omega | assumption) only [ ↓vcD, vcE, ↓vcG, vcF, evs, evP, evB, intsOf, fillC, Value.cells, pt, Value.oneCell', reduceIte, reduceCtorEq, Nat.reduceEqDiff, Nat.reduceAdd, Nat.reduceMul, Nat.reduceLT, Nat.reduceBEq, Nat.reduceLeDiff, Nat.reduceSub] -- r12
        refine ITri.ret ?_; exact EndR.plain (by simp) (by rfl) (by rfl) (by rfl)
      refine ITri.reg pok ?_; simp -implicitDefEqProofs (disch := first | decide | exact of_eq_true (eq_true rfl) | omega | assumption) only [g110, g111, hgg, hss, d1, d2, decide_false,  ↓vcD, vcE, ↓vcG, vcF, evs, evP, evB, intsOf, fillC, Value.cells, pt, Value.oneCell', reduceIte, reduceCtorEq, Nat.reduceEqDiff, Nat.reduceAdd, Nat.reduceMul, Nat.reduceLT, Nat.reduceBEq, Nat.reduceLeDiff, Nat.reduceSub] -- r11
      refine ITri.cond (v := false) rfl (fun h => by cases h) (fun _ => ?_); refine ITri.skip ?_; simp only [SeqQ_normal, BlkQ_normal]
      refine ITri.reg pok ?_; simp -implicitDefEqProofs (disch := first | decide | exact of_eq_true (eq_true rfl) | omega | assumption) only [hi1,  ↓vcD, vcE, ↓vcG, vcF, evs, evP, evB, intsOf, fillC, Value.cells, pt, Value.oneCell', reduceIte, reduceCtorEq, Nat.reduceEqDiff, Nat.reduceAdd, Nat.reduceMul, Nat.reduceLT, Nat.reduceBEq, Nat.reduceLeDiff, Nat.reduceSub] -- r13
      exact LoopQ.next (i + 1) ⟨by omega, lt_succ_all hic (by rw [ecf]; exact fun h => h.elim d1 d2)⟩ (by omega) (Wk.gc [0, 1, 2, 3, 4, 5, 6] [] (of_decide_eq_true rfl) (of_decide_eq_true rfl) rfl rfl (of_decide_eq_true rfl) rfl rfl (by repeat (first | exact xiOK_nil | refine xiOK_cons (by first | trivial | exact roomOK _ (by decide)) ?_)) rfl (by simp -implicitDefEqProofs (disch := first | decide | exact of_eq_true (eq_true rfl) | omega | assumption) only [wr33, objOK, sgL, xiL, objAt, nilO, OM, mvL, mv, mvS, okS, okP, mvL_rows, okML, okM, okML_rows, List.getElem?_cons_zero, Option.getD_some, implies_true, imp_self, ne_eq, and_self, true_or, or_true, Nat.zero_mul, Nat.sub_self, openB_self, ↓vcD, vcE, ↓vcG, vcF, evs, evP, evB, intsOf, fillC, Value.cells, pt, Value.oneCell', reduceIte, reduceCtorEq, Nat.reduceEqDiff, Nat.reduceAdd, Nat.reduceMul, Nat.reduceLT, Nat.reduceBEq, Nat.reduceLeDiff, Nat.reduceSub]) (by simp -implicitDefEqProofs (disch := first | decide | exact of_eq_true (eq_true rfl) | omega | assumption) only [wr33, valOK, sgL, xiL, mv, mvA, mvL, mvS, okS, okP, okM, okMA, okML, Option.getD_some, implies_true, and_self, true_or, or_true, Int.natCast_add, Int.cast_ofNat_Int, Nat.zero_mul, Nat.sub_self, openB_self, ↓vcD, vcE, ↓vcG, vcF, evs, evP, evB, intsOf, fillC, Value.cells, pt, Value.oneCell', reduceIte, reduceCtorEq, Nat.reduceEqDiff, Nat.reduceAdd, Nat.reduceMul, Nat.reduceLT, Nat.reduceBEq, Nat.reduceLeDiff, Nat.reduceSub]) (fun _ h => by cases h) ⟨rfl, fun _ h => by cases h⟩)
    refine ITri.exit ?_; try simp -implicitDefEqProofs (disch := first | decide | exact of_eq_true (eq_true rfl) | omega | assumption) only [ ↓vcD, vcE, ↓vcG, vcF, evs, evP, evB, intsOf, fillC, Value.cells, pt, Value.oneCell', reduceIte, reduceCtorEq, Nat.reduceEqDiff, Nat.reduceAdd, Nat.reduceMul, Nat.reduceLT, Nat.reduceBEq, Nat.reduceLeDiff, Nat.reduceSub] -- exit 2
    obtain rfl : i = j := by omega
    refine ITri.reg pok ?_; simp -implicitDefEqProofs (disch := first | decide | exact of_eq_true (eq_true rfl) | omega | assumption) only [hj1,  ↓vcD, vcE, ↓vcG, vcF, evs, evP, evB, intsOf, fillC, Value.cells, pt, Value.oneCell', reduceIte, reduceCtorEq, Nat.reduceEqDiff, Nat.reduceAdd, Nat.reduceMul, Nat.reduceLT, Nat.reduceBEq, Nat.reduceLeDiff, Nat.reduceSub] -- r14
    exact LoopQ.next (i + 1) ⟨by omega, lt_succ_all hj hic⟩ (by omega) (Wk.gc [0, 1, 2, 3, 4, 5] [] (of_decide_eq_true rfl) (of_decide_eq_true rfl) rfl rfl (of_decide_eq_true rfl) rfl rfl (by repeat (first | exact xiOK_nil | refine xiOK_cons (by first | trivial | exact roomOK _ (by decide)) ?_)) rfl (by simp -implicitDefEqProofs (disch := first | decide | exact of_eq_true (eq_true rfl) | omega | assumption) only [ objOK, sgL, xiL, objAt, nilO, OM, mvL, mv, mvS, okS, okP, mvL_rows, okML, okM, okML_rows, List.getElem?_cons_zero, Option.getD_some, implies_true, imp_self, ne_eq, and_self, true_or, or_true, Nat.zero_mul, Nat.sub_self, openB_self, ↓vcD, vcE, ↓vcG, vcF, evs, evP, evB, intsOf, fillC, Value.cells, pt, Value.oneCell', reduceIte, reduceCtorEq, Nat.reduceEqDiff, Nat.reduceAdd, Nat.reduceMul, Nat.reduceLT, Nat.reduceBEq, Nat.reduceLeDiff, Nat.reduceSub]) (by simp -implicitDefEqProofs (disch := first | decide | exact of_eq_true (eq_true rfl) | omega | assumption) only [ valOK, sgL, xiL, mv, mvA, mvL, mvS, okS, okP, okM, okMA, okML, Option.getD_some, implies_true, and_self, true_or, or_true, Int.natCast_add, Int.cast_ofNat_Int, Nat.zero_mul, Nat.sub_self, openB_self, ↓vcD, vcE, ↓vcG, vcF, evs, evP, evB, intsOf, fillC, Value.cells, pt, Value.oneCell', reduceIte, reduceCtorEq, Nat.reduceEqDiff, Nat.reduceAdd, Nat.reduceMul, Nat.reduceLT, Nat.reduceBEq, Nat.reduceLeDiff, Nat.reduceSub]) (fun _ h => by cases h) ⟨rfl, fun _ h => by cases h⟩)
  refine ITri.exit ?_; try simp -implicitDefEqProofs (disch := first | decide | exact of_eq_true (eq_true rfl) | omega | assumption) only [ ↓vcD, vcE, ↓vcG, vcF, evs, evP, evB, intsOf, fillC, Value.cells, pt, Value.oneCell', reduceIte, reduceCtorEq, Nat.reduceEqDiff, Nat.reduceAdd, Nat.reduceMul, Nat.reduceLT, Nat.reduceBEq, Nat.reduceLeDiff, Nat.reduceSub] -- exit 0
  obtain rfl : j = nS := by omega
  obtain ⟨rfl, rfl⟩ : a = -1 ∧ b = -1 := by
    rcases hv with ⟨_, h⟩ | ⟨i0, j0, _, _, q1, q2, q3, _⟩
    · exact h
    · exact absurd q3 (hj j0 (by omega) i0 q1)
  refine ITri.seq ?_
  refine ITri.reg pok ?_; simp -implicitDefEqProofs (disch := first | decide | exact of_eq_true (eq_true rfl) | omega | assumption) only [ ↓vcD, vcE, ↓vcG, vcF, evs, evP, evB, intsOf, fillC, Value.cells, pt, Value.oneCell', reduceIte, reduceCtorEq, Nat.reduceEqDiff, Nat.reduceAdd, Nat.reduceMul, Nat.reduceLT, Nat.reduceBEq, Nat.reduceLeDiff, Nat.reduceSub] -- r15
  refine ITri.ret ?_; exact EndR.plain (by simp) (by rfl) (by rfl) (by rfl)
theorem pl3 {h : AH} {k1 k2 k3 z1 z2 z3 : Nat} {o1 o2 o3 : Bool} (g1 : h.get k1 = some (.cells ⟨rows eT T, z1, o1⟩)) (g2 : h.get k2 = some (.cells ⟨rows eM S, z2, o2⟩)) (g3 : h.get k3 = some (.cells ⟨rows eII X, z3, o3⟩)) : PlOK h [(k1, 0, false), (k2, 0, false), (k3, 0, false)] [(nT, rows eT T), (nS, rows eM S), (nX, rows eII X)] [openB, openB, openB] :=
  ⟨⟨get_sees g1, ⟨_, g1, ⟨[], by simp⟩, fun _ => Nat.zero_le _⟩⟩, (fun e => by cases e), ⟨get_sees g2, ⟨_, g2, ⟨[], by simp⟩, fun _ => Nat.zero_le _⟩⟩, (fun e => by cases e), ⟨get_sees g3, ⟨_, g3, ⟨[], by simp⟩, fun _ => Nat.zero_le _⟩⟩, (fun e => by cases e), trivial⟩
theorem conflict_f {h : AH} {k1 k2 k3 z1 z2 z3 : Nat} {o1 o2 o3 : Bool} (hl : ps.length = 117) (hT : T.length = nT) (hS : S.length = nS) (hX : X.length = nX) (hb : E < 9223372036854775807) (hp : pulOK ps) (hr : runOK T S X E) (hv : cfV S (nth ps 110) (nth ps 111) a b) (h0 : h.sees 0 = true) (g1 : h.get k1 = some (.cells ⟨rows eT T, z1, o1⟩)) (g2 : h.get k2 = some (.cells ⟨rows eM S, z2, o2⟩)) (g3 : h.get k3 = some (.cells ⟨rows eII X, z3, o3⟩)) :
    Fc Try.prog 45 [.agg ⟨rows eI ps⟩, ruV (sO k1 nT) (sO k2 nS) (sO k3 nX) E] h (.tuple #[I6 a, I6 b, I6 0]) h :=
  Fc.liftP (os := []) (mk := fun ss => .agg ⟨rows eI ps⟩ :: (.agg ⟨ss.take 1 ++ [I6 E] ++ ss.drop 1⟩ :: [])) (mkv := fun _ => .tuple #[I6 a, I6 b, I6 0]) (cs := [(nT, rows eT T), (nS, rows eM S), (nX, rows eII X)]) (caps := [openB, openB, openB]) (ps := [(k1, 0, false), (k2, 0, false), (k3, 0, false)]) (conflict_c hl hT hS hX hb hp hr hv) (MkL.cons (rows_no (f := eI) ps) (MkL.agg1 (MkL.split rfl) rfl)) (MkV.const rfl) no3 (fun o ho => by cases ho) h0 (pl3 g1 g2 g3)
end
end Go.Proofs.Yteddklolpcpjaaa
