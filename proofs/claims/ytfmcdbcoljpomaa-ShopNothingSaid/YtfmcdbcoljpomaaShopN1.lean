/-
  Chapter 11, by names: what a nil shop answers, and what the reference says of it.
-/
import Derived.Test.YtfmcdbcoljpomaaShopA1
set_option linter.unusedSimpArgs false
set_option linter.unusedVariables false
namespace Go.Proofs.Ytfmcdbcoljpomaa
open Go.RowKit Go.Vm
set_option maxRecDepth 100000
/-- Two nil pointers are the same. -/
theorem gen_nil {P : Program} {w : Bool} {t u : TypeId} {s : Nat} {l : Fr} {h : AH} {K : Value → AH → Prop} (hl : lk l s = some (.pointer none)) (e : pureRun P (do Go.eqGuard .eql t (.tmp s) (.const (.pointer none)) (.pointer none) (.pointer none); Go.binOp .eql t (.pointer none) (.pointer none)) = some (.bool true)) (q : K (.bool true) h) :
    iStep P w (.gen (.binOp .eql t (.tmp s) (.const (.pointer none)) u)) l h K := by
  refine ⟨_, _, ?_, q⟩
  have e1 : aEnv (trOf l) (.tmp s) = some (.pointer none) := by simp only [aEnv, trOf_get, hl]
  have e2 : aEnv (trOf l) (.const (.pointer none)) = some (.pointer none) := rfl
  exact op_bin e1 e2 rfl rfl rfl e
abbrev pN : Value := .pointer none
abbrev s0N : Value := .slice none 0 0
/-- The reference's nil shop. -/
abbrev shN : Value := .agg ⟨[.bool true, s0N, s0N, s0N, .int .i64 0, s0N, s0N, s0N]⟩
abbrev one : Value := .int .i64 1
/- (*boule/shop.Shop).Now · slots 9 · names 0:s 1:s · results [2] -/
def ir29_r0 : IC := .reg [⟨some 2, none, false, .mv (.k (.int .i64 0))⟩] (some [0])
def ir29_r1 : IC := .reg [⟨some 3, none, false, .mv (.t 0)⟩,
  ⟨some 4, none, false, .gen (.binOp .eql 65 (.tmp 3) (.const (.pointer none)) 65)⟩] (some [0, 4])
def ir29_r2 : IC := .reg [⟨some 2, none, false, .mv (.k (.int .i64 0))⟩] (some [2])
def ir29_1 : IC := .seq ir29_r2 .ret
def ir29_2 : IC := .cond (.t 4) ir29_1 .skip
def ir29_3 : IC := .seq ir29_r1 ir29_2
def ir29_r3 : IC := .reg [⟨some 5, none, false, .mv (.t 0)⟩,
  ⟨some 6, none, false, .nilck (.t 5)⟩,
  ⟨some 7, none, false, .fad 4 (.t 6)⟩,
  ⟨some 8, none, false, .ldc (.t 7)⟩,
  ⟨some 2, none, false, .mv (.t 8)⟩] (some [2])
def ir29_4 : IC := .seq ir29_r3 .ret
def ir29_5 : IC := .seq ir29_3 ir29_4
def ir29_6 : IC := .seq ir29_r0 ir29_5
def ir29 : IC := ir29_6
theorem fn29 : FnIs Try.prog 29 ir29 9 [.tmp 2] := ⟨Try.f29, Try.f29.body.getD .skip, Try.func29, by kernel_rfl, by kernel_rfl, by kernel_rfl, by kernel_rfl⟩
/- (*boule/shop.Shop).Enter · slots 34 · names 0:s 1:s · results [2, 3] -/
def ir37_r0 : IC := .reg [⟨some 2, none, false, .mv (.k (.int .i64 0))⟩,
  ⟨some 3, none, false, .mv (.k (.int .i64 0))⟩] (some [0])
def ir37_r1 : IC := .reg [⟨some 5, none, false, .mv (.t 0)⟩,
  ⟨some 6, none, false, .gen (.binOp .eql 65 (.tmp 5) (.const (.pointer none)) 65)⟩,
  ⟨some 4, none, false, .mv (.t 6)⟩] (some [0, 4])
def ir37_r2 : IC := .reg [⟨some 2, none, false, .mv (.k (.int .i64 0))⟩,
  ⟨some 3, none, false, .mv (.k (.int .i64 1))⟩] (some [2, 3])
def ir37_1 : IC := .seq ir37_r2 .ret
def ir37_r3 : IC := .reg [⟨some 8, none, false, .mv (.t 0)⟩,
  ⟨some 9, none, false, .nilck (.t 8)⟩,
  ⟨some 10, none, false, .fad 3 (.t 9)⟩,
  ⟨some 11, none, false, .ldc (.t 10)⟩,
  ⟨some 12, none, false, .len (.t 11)⟩,
  ⟨some 13, none, false, .cmp .geq (.t 12) (.k (.int .i64 40))⟩,
  ⟨some 7, none, false, .mv (.t 13)⟩] (some [0, 7])
def ir37_r4 : IC := .reg [⟨some 2, none, false, .mv (.k (.int .i64 0))⟩,
  ⟨some 3, none, false, .mv (.k (.int .i64 8))⟩] (some [2, 3])
def ir37_2 : IC := .seq ir37_r4 .ret
def ir37_3 : IC := .cond (.t 7) ir37_2 .skip
def ir37_4 : IC := .seq ir37_r3 ir37_3
def ir37_5 : IC := .cond (.t 4) ir37_1 ir37_4
def ir37_6 : IC := .seq ir37_r1 ir37_5
def ir37_7 : IC := .block 0 ir37_6
def ir37_r5 : IC := .draw [(⟨some 14, none, false, .mv (.t 0)⟩, false, 0, 0),
  (⟨some 15, none, false, .mv (.t 0)⟩, false, 0, 0),
  (⟨some 16, none, false, .nilck (.t 15)⟩, false, 2, 0),
  (⟨some 17, none, false, .fad 3 (.t 16)⟩, false, 6, 0),
  (⟨some 18, none, false, .ldc (.t 17)⟩, false, 14, 1),
  (⟨some 19, none, false, .mv (.t 0)⟩, false, 0, 0),
  (⟨some 20, none, false, .nilck (.t 19)⟩, false, 32, 0),
  (⟨some 21, none, false, .fad 4 (.t 20)⟩, false, 96, 0),
  (⟨some 22, none, false, .ldc (.t 21)⟩, false, 224, 15),
  (⟨some 23, none, false, .bld [(.int .i64 0), (.pointer none), (.int .i64 0), (.int .u8 0), (.int .i64 0)] [(2, 1, (.t 22))]⟩, false, 480, 0),
  (⟨some 24, none, false, .box (.t 23)⟩, false, 992, 15),
  (⟨some 25, none, false, .bsl 1 1 [(.pointer none)] [(0, (.t 24))]⟩, false, 2016, 15),
  (⟨some 26, none, false, .app 1 8 (.t 18) (.t 25)⟩, true, 4094, 1),
  (⟨some 27, none, false, .nilck (.t 14)⟩, false, 8191, 0),
  (⟨some 28, none, false, .fad 3 (.t 27)⟩, false, 16383, 0),
  (⟨none, none, false, .st 1 (.t 28) (.t 26)⟩, true, 32767, 1)] (some [0])
def ir37_r6 : IC := .reg [⟨some 29, none, false, .mv (.t 0)⟩,
  ⟨some 30, none, false, .nilck (.t 29)⟩,
  ⟨some 31, none, false, .fad 3 (.t 30)⟩,
  ⟨some 32, none, false, .ldc (.t 31)⟩,
  ⟨some 33, none, false, .len (.t 32)⟩,
  ⟨some 2, none, false, .mv (.t 33)⟩,
  ⟨some 3, none, false, .mv (.k (.int .i64 0))⟩] (some [2, 3])
def ir37_8 : IC := .seq ir37_r6 .ret
def ir37_9 : IC := .seq ir37_r5 ir37_8
def ir37_10 : IC := .seq ir37_7 ir37_9
def ir37_11 : IC := .seq ir37_r0 ir37_10
def ir37 : IC := ir37_11
theorem fn37 : FnIs Try.prog 37 ir37 34 [.tmp 2, .tmp 3] := ⟨Try.f37, Try.f37.body.getD .skip, Try.func37, by kernel_rfl, by kernel_rfl, by kernel_rfl, by kernel_rfl⟩
/- (*boule/shop.Shop).Start · slots 158 · names 0:s 1:number 2:recipe 3:numbers 4:s 5:number 6:recipe 7:numbers 9:t 10:e 11:lots 12:_ 13:l 14:e 15:r 16:_ 17:l · results [8] -/
def ir38_r0 : IC := .reg [⟨some 8, none, false, .mv (.k (.int .i64 0))⟩] (some [0, 1, 2, 3])
def ir38_r1 : IC := .reg [⟨some 19, none, false, .mv (.t 0)⟩,
  ⟨some 20, none, false, .mv (.t 1)⟩,
  ⟨some 21, none, false, .call (.f 77) [(.t 19), (.t 20)]⟩,
  ⟨some 18, none, false, .mv (.t 21)⟩,
  ⟨some 22, none, false, .ext (.t 18) 0⟩,
  ⟨some 23, none, false, .ext (.t 18) 1⟩,
  ⟨some 9, none, false, .mv (.t 22)⟩,
  ⟨some 10, none, false, .mv (.t 23)⟩] (some [0, 2, 3, 9, 10])
def ir38_r2 : IC := .reg [⟨some 24, none, false, .mv (.t 10)⟩,
  ⟨some 25, none, false, .cmp .neq (.t 24) (.k (.int .i64 0))⟩] (some [0, 2, 3, 9, 10, 25])
def ir38_r3 : IC := .reg [⟨some 26, none, false, .mv (.t 10)⟩,
  ⟨some 8, none, false, .mv (.t 26)⟩] (some [8])
def ir38_1 : IC := .seq ir38_r3 .ret
def ir38_2 : IC := .cond (.t 25) ir38_1 .skip
def ir38_3 : IC := .seq ir38_r2 ir38_2
def ir38_r4 : IC := .reg [⟨some 27, none, false, .mv (.t 2)⟩,
  ⟨some 28, none, false, .mv (.t 0)⟩,
  ⟨some 29, none, false, .nilck (.t 28)⟩,
  ⟨some 30, none, false, .fad 0 (.t 29)⟩,
  ⟨some 31, none, false, .ldc (.t 30)⟩,
  ⟨some 32, none, false, .len (.t 31)⟩,
  ⟨some 33, none, false, .ar .sub (.t 32) (.k (.int .i64 1))⟩,
  ⟨some 34, none, false, .call (.f 42) [(.t 27), (.k (.int .i64 0)), (.t 33)]⟩,
  ⟨some 35, none, false, .not (.t 34)⟩] (some [0, 2, 3, 9, 35])
def ir38_r5 : IC := .reg [⟨some 8, none, false, .mv (.k (.int .i64 7))⟩] (some [8])
def ir38_4 : IC := .seq ir38_r5 .ret
def ir38_5 : IC := .cond (.t 35) ir38_4 .skip
def ir38_6 : IC := .seq ir38_r4 ir38_5
def ir38_r6 : IC := .reg [⟨some 37, none, false, .mv (.t 0)⟩,
  ⟨some 38, none, false, .mv (.t 3)⟩,
  ⟨some 39, none, false, .call (.f 89) [(.t 37), (.t 38)]⟩,
  ⟨some 36, none, false, .mv (.t 39)⟩,
  ⟨some 40, none, false, .ext (.t 36) 0⟩,
  ⟨some 41, none, false, .ext (.t 36) 1⟩,
  ⟨some 11, none, false, .mv (.t 40)⟩,
  ⟨some 10, none, false, .mv (.t 41)⟩] (some [0, 2, 3, 9, 10, 11])
def ir38_r7 : IC := .reg [⟨some 43, none, false, .mv (.t 10)⟩,
  ⟨some 44, none, false, .cmp .neq (.t 43) (.k (.int .i64 0))⟩,
  ⟨some 42, none, false, .mv (.t 44)⟩] (some [0, 2, 3, 9, 10, 11, 42])
def ir38_r8 : IC := .reg [⟨some 45, none, false, .mv (.t 10)⟩,
  ⟨some 8, none, false, .mv (.t 45)⟩] (some [8])
def ir38_7 : IC := .seq ir38_r8 .ret
def ir38_r9 : IC := .reg [⟨some 47, none, false, .mv (.t 11)⟩,
  ⟨some 48, none, false, .len (.t 47)⟩,
  ⟨some 49, none, false, .mv (.t 9)⟩,
  ⟨some 50, none, false, .nilck (.t 49)⟩,
  ⟨some 51, none, false, .fad 0 (.t 50)⟩,
  ⟨some 52, none, false, .fad 1 (.t 51)⟩,
  ⟨some 53, none, false, .ldc (.t 52)⟩,
  ⟨some 54, none, false, .cmp .gtr (.t 48) (.t 53)⟩,
  ⟨some 46, none, false, .mv (.t 54)⟩] (some [0, 2, 3, 9, 11, 46])
def ir38_r10 : IC := .reg [⟨some 8, none, false, .mv (.k (.int .i64 5))⟩] (some [8])
def ir38_8 : IC := .seq ir38_r10 .ret
def ir38_r11 : IC := .reg [⟨some 56, none, false, .mv (.t 9)⟩,
  ⟨some 57, none, false, .nilck (.t 56)⟩,
  ⟨some 58, none, false, .fad 6 (.t 57)⟩,
  ⟨some 59, none, false, .ldc (.t 58)⟩,
  ⟨some 60, none, false, .gen (.binOp .neq 146 (.tmp 59) (.const (.pointer none)) 146)⟩,
  ⟨some 55, none, false, .mv (.t 60)⟩] (some [0, 2, 3, 9, 11, 55])
def ir38_r12 : IC := .reg [⟨some 8, none, false, .mv (.k (.int .i64 9))⟩] (some [8])
def ir38_9 : IC := .seq ir38_r12 .ret
def ir38_r13 : IC := .reg [⟨some 62, none, false, .mv (.t 9)⟩,
  ⟨some 63, none, false, .nilck (.t 62)⟩,
  ⟨some 64, none, false, .fad 8 (.t 63)⟩,
  ⟨some 65, none, false, .ldc (.t 64)⟩,
  ⟨some 61, none, false, .mv (.t 65)⟩] (some [0, 2, 3, 9, 11, 61])
def ir38_r14 : IC := .reg [⟨some 8, none, false, .mv (.k (.int .i64 110))⟩] (some [8])
def ir38_10 : IC := .seq ir38_r14 .ret
def ir38_r15 : IC := .reg [⟨some 67, none, false, .mv (.t 9)⟩,
  ⟨some 68, none, false, .nilck (.t 67)⟩,
  ⟨some 69, none, false, .fad 0 (.t 68)⟩,
  ⟨some 70, none, false, .fad 0 (.t 69)⟩,
  ⟨some 71, none, false, .ldc (.t 70)⟩,
  ⟨some 72, none, false, .mv (.t 2)⟩,
  ⟨some 73, none, false, .shf .shr (.t 71) (.t 72)⟩,
  ⟨some 74, none, false, .bits .and (.t 73) (.k (.int .i64 1))⟩,
  ⟨some 75, none, false, .cmp .eql (.t 74) (.k (.int .i64 0))⟩,
  ⟨some 66, none, false, .mv (.t 75)⟩] (some [0, 2, 3, 9, 11, 66])
def ir38_r16 : IC := .reg [⟨some 8, none, false, .mv (.k (.int .i64 111))⟩] (some [8])
def ir38_11 : IC := .seq ir38_r16 .ret
def ir38_12 : IC := .cond (.t 66) ir38_11 .skip
def ir38_13 : IC := .seq ir38_r15 ir38_12
def ir38_14 : IC := .cond (.t 61) ir38_10 ir38_13
def ir38_15 : IC := .seq ir38_r13 ir38_14
def ir38_16 : IC := .cond (.t 55) ir38_9 ir38_15
def ir38_17 : IC := .seq ir38_r11 ir38_16
def ir38_18 : IC := .cond (.t 46) ir38_8 ir38_17
def ir38_19 : IC := .seq ir38_r9 ir38_18
def ir38_20 : IC := .cond (.t 42) ir38_7 ir38_19
def ir38_21 : IC := .seq ir38_r7 ir38_20
def ir38_22 : IC := .block 0 ir38_21
def ir38_r17 : IC := .reg [⟨some 76, none, false, .mv (.t 11)⟩,
  ⟨some 77, none, false, .len (.t 76)⟩,
  ⟨some 78, none, false, .mv (.k (.int .i64 0))⟩] (some [0, 2, 3, 9, 11, 76, 77, 78])
def ir38_r18 : IC := .reg [⟨some 79, none, false, .cmp .lss (.t 78) (.t 77)⟩] (some [0, 2, 3, 9, 11, 76, 77, 78, 79])
def ir38_23 : IC := .cond (.t 79) .skip (.exit 1)
def ir38_r19 : IC := .reg [⟨some 80, none, false, .iad 1 (.t 76) (.t 78)⟩,
  ⟨some 81, none, false, .ldc (.t 80)⟩,
  ⟨some 13, none, false, .mv (.t 81)⟩] (some [0, 2, 3, 9, 11, 13, 76, 77, 78])
def ir38_r20 : IC := .reg [⟨some 82, none, false, .mv (.t 0)⟩,
  ⟨some 83, none, false, .mv (.t 13)⟩,
  ⟨some 84, none, false, .mv (.t 2)⟩,
  ⟨some 85, none, false, .call (.f 90) [(.t 82), (.t 83), (.t 84)]⟩,
  ⟨some 14, none, false, .mv (.t 85)⟩] (some [0, 2, 3, 9, 11, 14, 76, 77, 78])
def ir38_r21 : IC := .reg [⟨some 86, none, false, .mv (.t 14)⟩,
  ⟨some 87, none, false, .cmp .neq (.t 86) (.k (.int .i64 0))⟩] (some [0, 2, 3, 9, 11, 14, 76, 77, 78, 87])
def ir38_r22 : IC := .reg [⟨some 88, none, false, .mv (.t 14)⟩,
  ⟨some 8, none, false, .mv (.t 88)⟩] (some [8])
def ir38_24 : IC := .seq ir38_r22 .ret
def ir38_25 : IC := .cond (.t 87) ir38_24 .skip
def ir38_26 : IC := .seq ir38_r21 ir38_25
def ir38_27 : IC := .seq ir38_r20 ir38_26
def ir38_28 : IC := .seq ir38_r19 ir38_27
def ir38_29 : IC := .block 2 ir38_28
def ir38_r23 : IC := .reg [⟨some 89, none, false, .ar .add (.t 78) (.k (.int .i64 1))⟩,
  ⟨some 78, none, false, .mv (.t 89)⟩] (some [0, 2, 3, 9, 11, 76, 77, 78])
def ir38_30 : IC := .seq ir38_29 ir38_r23
def ir38_31 : IC := .seq ir38_23 ir38_30
def ir38_32 : IC := .seq ir38_r18 ir38_31
def ir38_33 : IC := .loop ir38_32
def ir38_34 : IC := .block 1 ir38_33
def ir38_35 : IC := .seq ir38_r17 ir38_34
def ir38_r24 : IC := .reg [⟨some 90, none, false, .mv (.t 0)⟩,
  ⟨some 91, none, false, .nilck (.t 90)⟩,
  ⟨some 92, none, false, .fad 0 (.t 91)⟩,
  ⟨some 93, none, false, .ldc (.t 92)⟩,
  ⟨some 94, none, false, .mv (.t 2)⟩,
  ⟨some 95, none, false, .iad 2 (.t 93) (.t 94)⟩,
  ⟨some 96, none, false, .lda 2 (.t 95)⟩,
  ⟨some 15, none, false, .alloc [(.int .i64 0), (.int .i64 0)]⟩,
  ⟨none, none, false, .st 2 (.t 15) (.t 96)⟩] (some [0, 2, 3, 9, 11, 15])
def ir38_r25 : IC := .draw [(⟨some 97, none, false, .mv (.t 9)⟩, false, 0, 0),
  (⟨some 98, none, false, .nilck (.t 97)⟩, false, 1, 0),
  (⟨some 99, none, false, .fad 7 (.t 98)⟩, false, 3, 0),
  (⟨some 100, none, false, .ldc (.t 99)⟩, false, 7, 1),
  (⟨some 101, none, false, .fad 1 (.t 15)⟩, false, 0, 0),
  (⟨some 102, none, false, .ldc (.t 101)⟩, false, 16, 8),
  (⟨some 103, none, false, .ar .add (.t 100) (.t 102)⟩, false, 63, 0),
  (⟨some 104, none, false, .mv (.t 9)⟩, false, 0, 0),
  (⟨some 105, none, false, .nilck (.t 104)⟩, false, 128, 0),
  (⟨some 106, none, false, .fad 0 (.t 105)⟩, false, 384, 0),
  (⟨some 107, none, false, .fad 2 (.t 106)⟩, false, 896, 0),
  (⟨some 108, none, false, .ldc (.t 107)⟩, false, 1920, 24),
  (⟨some 109, none, false, .cmp .gtr (.t 103) (.t 108)⟩, false, 4095, 0)] (some [0, 2, 3, 9, 11, 15, 109])
def ir38_r26 : IC := .reg [⟨some 8, none, false, .mv (.k (.int .i64 113))⟩] (some [8])
def ir38_36 : IC := .seq ir38_r26 .ret
def ir38_37 : IC := .cond (.t 109) ir38_36 .skip
def ir38_38 : IC := .seq ir38_r25 ir38_37
def ir38_r27 : IC := .draw [(⟨some 110, none, false, .mv (.t 9)⟩, false, 0, 0),
  (⟨some 111, none, false, .nilck (.t 110)⟩, false, 1, 0),
  (⟨some 112, none, false, .fad 7 (.t 111)⟩, false, 3, 0),
  (⟨some 113, none, false, .ldc (.t 112)⟩, false, 7, 1),
  (⟨some 114, none, false, .fad 1 (.t 15)⟩, false, 0, 0),
  (⟨some 115, none, false, .ldc (.t 114)⟩, false, 16, 8),
  (⟨some 116, none, false, .ar .add (.t 113) (.t 115)⟩, false, 63, 0),
  (⟨some 117, none, false, .nilck (.t 110)⟩, false, 127, 0),
  (⟨some 118, none, false, .fad 7 (.t 117)⟩, false, 255, 0),
  (⟨none, none, false, .st 1 (.t 118) (.t 116)⟩, true, 511, 1)] (some [0, 2, 3, 9, 11, 15])
def ir38_r28 : IC := .draw [(⟨some 119, none, false, .mv (.t 9)⟩, false, 0, 0),
  (⟨some 120, none, false, .mv (.t 2)⟩, false, 0, 0),
  (⟨some 121, none, false, .mv (.t 0)⟩, false, 0, 0),
  (⟨some 122, none, false, .nilck (.t 121)⟩, false, 4, 0),
  (⟨some 123, none, false, .fad 4 (.t 122)⟩, false, 12, 0),
  (⟨some 124, none, false, .ldc (.t 123)⟩, false, 28, 1),
  (⟨some 125, none, false, .fad 0 (.t 15)⟩, false, 0, 0),
  (⟨some 126, none, false, .ldc (.t 125)⟩, false, 64, 29),
  (⟨some 127, none, false, .ar .add (.t 124) (.t 126)⟩, false, 252, 0),
  (⟨some 128, none, false, .mv (.t 3)⟩, false, 0, 0),
  (⟨some 129, none, false, .call (.f 78) [(.t 128)]⟩, false, 512, 93),
  (⟨some 130, none, false, .mv (.t 11)⟩, false, 0, 0),
  (⟨some 131, none, false, .bld [(.int .i64 0), (.int .i64 0), (.slice none 0 0), (.slice none 0 0)] [(0, 1, (.t 120)), (1, 1, (.t 127)), (2, 1, (.t 129)), (3, 1, (.t 130))]⟩, false, 4094, 0),
  (⟨some 132, none, false, .box (.t 131)⟩, true, 8190, 1),
  (⟨some 133, none, false, .nilck (.t 119)⟩, false, 16383, 0),
  (⟨some 134, none, false, .fad 6 (.t 133)⟩, false, 32767, 0),
  (⟨none, none, false, .st 1 (.t 134) (.t 132)⟩, true, 65535, 1)] (some [0, 9, 11])
def ir38_r29 : IC := .reg [⟨some 135, none, false, .mv (.t 11)⟩,
  ⟨some 136, none, false, .len (.t 135)⟩,
  ⟨some 137, none, false, .mv (.k (.int .i64 0))⟩] (some [0, 9, 135, 136, 137])
def ir38_r30 : IC := .reg [⟨some 138, none, false, .cmp .lss (.t 137) (.t 136)⟩] (some [0, 9, 135, 136, 137, 138])
def ir38_39 : IC := .cond (.t 138) .skip (.exit 3)
def ir38_r31 : IC := .reg [⟨some 139, none, false, .iad 1 (.t 135) (.t 137)⟩,
  ⟨some 140, none, false, .ldc (.t 139)⟩,
  ⟨some 17, none, false, .mv (.t 140)⟩] (some [0, 9, 17, 135, 136, 137])
def ir38_r32 : IC := .reg [⟨some 141, none, false, .mv (.t 17)⟩,
  ⟨some 142, none, false, .mv (.t 17)⟩,
  ⟨some 143, none, false, .mv (.t 9)⟩,
  ⟨some 144, none, false, .mv (.t 0)⟩,
  ⟨some 145, none, false, .nilck (.t 144)⟩,
  ⟨some 146, none, false, .fad 4 (.t 145)⟩,
  ⟨some 147, none, false, .ldc (.t 146)⟩,
  ⟨some 148, none, false, .nilck (.t 141)⟩,
  ⟨some 149, none, false, .fad 1 (.t 148)⟩,
  ⟨none, none, false, .st 1 (.t 149) (.t 143)⟩,
  ⟨some 150, none, false, .nilck (.t 142)⟩,
  ⟨some 151, none, false, .fad 2 (.t 150)⟩,
  ⟨none, none, false, .st 1 (.t 151) (.t 147)⟩] (some [0, 9, 17, 135, 136, 137])
def ir38_r33 : IC := .reg [⟨some 152, none, false, .mv (.t 9)⟩,
  ⟨some 153, none, false, .nilck (.t 152)⟩,
  ⟨some 154, none, false, .fad 12 (.t 153)⟩,
  ⟨some 155, none, false, .ldc (.t 154)⟩,
  ⟨some 156, none, false, .mv (.t 17)⟩,
  ⟨none, none, false, .gen (.mapUpdate 147 (.tmp 155) (.tmp 156) (.const (.bool true)))⟩] (some [0, 9, 135, 136, 137])
def ir38_40 : IC := .seq ir38_r32 ir38_r33
def ir38_41 : IC := .seq ir38_r31 ir38_40
def ir38_42 : IC := .block 4 ir38_41
def ir38_r34 : IC := .reg [⟨some 157, none, false, .ar .add (.t 137) (.k (.int .i64 1))⟩,
  ⟨some 137, none, false, .mv (.t 157)⟩] (some [0, 9, 135, 136, 137])
def ir38_43 : IC := .seq ir38_42 ir38_r34
def ir38_44 : IC := .seq ir38_39 ir38_43
def ir38_45 : IC := .seq ir38_r30 ir38_44
def ir38_46 : IC := .loop ir38_45
def ir38_47 : IC := .block 3 ir38_46
def ir38_48 : IC := .seq ir38_r29 ir38_47
def ir38_r35 : IC := .reg [⟨some 8, none, false, .mv (.k (.int .i64 0))⟩] (some [8])
def ir38_49 : IC := .seq ir38_r35 .ret
def ir38_50 : IC := .seq ir38_48 ir38_49
def ir38_51 : IC := .seq ir38_r28 ir38_50
def ir38_52 : IC := .seq ir38_r27 ir38_51
def ir38_53 : IC := .seq ir38_38 ir38_52
def ir38_54 : IC := .seq ir38_r24 ir38_53
def ir38_55 : IC := .seq ir38_35 ir38_54
def ir38_56 : IC := .seq ir38_22 ir38_55
def ir38_57 : IC := .seq ir38_r6 ir38_56
def ir38_58 : IC := .seq ir38_6 ir38_57
def ir38_59 : IC := .seq ir38_3 ir38_58
def ir38_60 : IC := .seq ir38_r1 ir38_59
def ir38_61 : IC := .seq ir38_r0 ir38_60
def ir38 : IC := ir38_61
theorem fn38 : FnIs Try.prog 38 ir38 158 [.tmp 8] := ⟨Try.f38, Try.f38.body.getD .skip, Try.func38, by kernel_rfl, by kernel_rfl, by kernel_rfl, by kernel_rfl⟩
/- (*boule/shop.Shop).Tick · slots 117 · names 0:s 1:seconds 2:s 3:seconds 5:_ 6:t 7:_ 8:l · results [4] -/
def ir39_r0 : IC := .reg [⟨some 4, none, false, .mv (.k (.int .i64 0))⟩] (some [0, 1])
def ir39_r1 : IC := .reg [⟨some 10, none, false, .mv (.t 0)⟩,
  ⟨some 11, none, false, .gen (.binOp .eql 65 (.tmp 10) (.const (.pointer none)) 65)⟩,
  ⟨some 9, none, false, .mv (.t 11)⟩] (some [0, 1, 9])
def ir39_r2 : IC := .reg [⟨some 4, none, false, .mv (.k (.int .i64 1))⟩] (some [4])
def ir39_1 : IC := .seq ir39_r2 .ret
def ir39_r3 : IC := .reg [⟨some 13, none, false, .mv (.t 1)⟩,
  ⟨some 14, none, false, .call (.f 42) [(.t 13), (.k (.int .i64 1)), (.k (.int .i64 1000000))]⟩,
  ⟨some 15, none, false, .not (.t 14)⟩,
  ⟨some 16, none, false, .mv (.t 15)⟩,
  ⟨some 17, some (16, false), false, .mv (.t 0)⟩,
  ⟨some 18, some (16, false), false, .nilck (.t 17)⟩,
  ⟨some 19, some (16, false), false, .fad 4 (.t 18)⟩,
  ⟨some 20, some (16, false), false, .ldc (.t 19)⟩,
  ⟨some 21, some (16, false), false, .mv (.t 1)⟩,
  ⟨some 22, some (16, false), false, .ar .add (.t 20) (.t 21)⟩,
  ⟨some 23, some (16, false), false, .cmp .gtr (.t 22) (.k (.int .i64 100000000))⟩,
  ⟨some 24, none, false, .pick (.t 16) (.k (.bool true)) (.t 23)⟩,
  ⟨some 12, none, false, .mv (.t 24)⟩] (some [0, 1, 12])
def ir39_r4 : IC := .reg [⟨some 4, none, false, .mv (.k (.int .i64 3))⟩] (some [4])
def ir39_2 : IC := .seq ir39_r4 .ret
def ir39_3 : IC := .cond (.t 12) ir39_2 .skip
def ir39_4 : IC := .seq ir39_r3 ir39_3
def ir39_5 : IC := .cond (.t 9) ir39_1 ir39_4
def ir39_6 : IC := .seq ir39_r1 ir39_5
def ir39_7 : IC := .block 0 ir39_6
def ir39_r5 : IC := .reg [⟨some 25, none, false, .mv (.t 0)⟩,
  ⟨some 26, none, false, .nilck (.t 25)⟩,
  ⟨some 27, none, false, .fad 4 (.t 26)⟩,
  ⟨some 28, none, false, .ldc (.t 27)⟩,
  ⟨some 29, none, false, .mv (.t 1)⟩,
  ⟨some 30, none, false, .ar .add (.t 28) (.t 29)⟩,
  ⟨some 31, none, false, .nilck (.t 25)⟩,
  ⟨some 32, none, false, .fad 4 (.t 31)⟩,
  ⟨none, none, false, .st 1 (.t 32) (.t 30)⟩] (some [0])
def ir39_r6 : IC := .reg [⟨some 33, none, false, .mv (.t 0)⟩,
  ⟨some 34, none, false, .nilck (.t 33)⟩,
  ⟨some 35, none, false, .fad 2 (.t 34)⟩,
  ⟨some 36, none, false, .ldc (.t 35)⟩,
  ⟨some 37, none, false, .len (.t 36)⟩,
  ⟨some 38, none, false, .mv (.k (.int .i64 0))⟩] (some [0, 36, 37, 38])
def ir39_r7 : IC := .reg [⟨some 39, none, false, .cmp .lss (.t 38) (.t 37)⟩] (some [0, 36, 37, 38, 39])
def ir39_8 : IC := .cond (.t 39) .skip (.exit 1)
def ir39_r8 : IC := .reg [⟨some 40, none, false, .iad 1 (.t 36) (.t 38)⟩,
  ⟨some 41, none, false, .ldc (.t 40)⟩,
  ⟨some 6, none, false, .mv (.t 41)⟩] (some [0, 6, 36, 37, 38])
def ir39_r9 : IC := .draw [(⟨some 42, none, false, .mv (.t 6)⟩, false, 0, 0),
  (⟨some 43, none, false, .nilck (.t 42)⟩, false, 1, 0),
  (⟨some 44, none, false, .fad 6 (.t 43)⟩, false, 3, 0),
  (⟨some 45, none, false, .ldc (.t 44)⟩, true, 7, 1),
  (⟨some 46, none, false, .gen (.binOp .neq 146 (.tmp 45) (.const (.pointer none)) 146)⟩, false, 15, 0),
  (⟨some 47, none, false, .mv (.t 46)⟩, false, 31, 0),
  (⟨some 48, some (47, true), false, .mv (.t 6)⟩, false, 63, 0),
  (⟨some 49, some (47, true), false, .nilck (.t 48)⟩, false, 127, 0),
  (⟨some 50, some (47, true), false, .fad 6 (.t 49)⟩, false, 255, 0),
  (⟨some 51, some (47, true), false, .ldc (.t 50)⟩, false, 511, 1),
  (⟨some 52, some (47, true), false, .nilck (.t 51)⟩, false, 1023, 0),
  (⟨some 53, some (47, true), false, .fad 1 (.t 52)⟩, false, 2047, 0),
  (⟨some 54, some (47, true), false, .ldc (.t 53)⟩, false, 4095, 1),
  (⟨some 55, some (47, true), false, .mv (.t 0)⟩, false, 63, 0),
  (⟨some 56, some (47, true), false, .nilck (.t 55)⟩, false, 8255, 0),
  (⟨some 57, some (47, true), false, .fad 4 (.t 56)⟩, false, 24639, 0),
  (⟨some 58, some (47, true), false, .ldc (.t 57)⟩, false, 57407, 4096),
  (⟨some 59, some (47, true), false, .cmp .leq (.t 54) (.t 58)⟩, false, 131071, 0),
  (⟨some 60, none, false, .pick (.t 47) (.t 59) (.k (.bool false))⟩, false, 262143, 0)] (some [0, 6, 36, 37, 38, 60])
def ir39_r10 : IC := .reg [⟨some 61, none, false, .mv (.t 6)⟩,
  ⟨some 62, none, false, .mv (.t 6)⟩,
  ⟨some 63, none, false, .nilck (.t 62)⟩,
  ⟨some 64, none, false, .fad 6 (.t 63)⟩,
  ⟨some 65, none, false, .ldc (.t 64)⟩,
  ⟨some 66, none, false, .nilck (.t 65)⟩,
  ⟨some 67, none, false, .fad 1 (.t 66)⟩,
  ⟨some 68, none, false, .ldc (.t 67)⟩,
  ⟨some 69, none, false, .call (.f 91) [(.t 61), (.t 68), (.f 92)]⟩] (some [0, 36, 37, 38])
def ir39_9 : IC := .cond (.t 60) ir39_r10 .skip
def ir39_10 : IC := .seq ir39_r9 ir39_9
def ir39_11 : IC := .seq ir39_r8 ir39_10
def ir39_12 : IC := .block 2 ir39_11
def ir39_r11 : IC := .reg [⟨some 70, none, false, .ar .add (.t 38) (.k (.int .i64 1))⟩,
  ⟨some 38, none, false, .mv (.t 70)⟩] (some [0, 36, 37, 38])
def ir39_13 : IC := .seq ir39_12 ir39_r11
def ir39_14 : IC := .seq ir39_8 ir39_13
def ir39_15 : IC := .seq ir39_r7 ir39_14
def ir39_16 : IC := .loop ir39_15
def ir39_17 : IC := .block 1 ir39_16
def ir39_18 : IC := .seq ir39_r6 ir39_17
def ir39_r12 : IC := .reg [⟨some 71, none, false, .mv (.t 0)⟩,
  ⟨some 72, none, false, .nilck (.t 71)⟩,
  ⟨some 73, none, false, .fad 3 (.t 72)⟩,
  ⟨some 74, none, false, .ldc (.t 73)⟩,
  ⟨some 75, none, false, .len (.t 74)⟩,
  ⟨some 76, none, false, .mv (.k (.int .i64 0))⟩] (some [0, 74, 75, 76])
def ir39_r13 : IC := .reg [⟨some 77, none, false, .cmp .lss (.t 76) (.t 75)⟩] (some [0, 74, 75, 76, 77])
def ir39_19 : IC := .cond (.t 77) .skip (.exit 3)
def ir39_r14 : IC := .reg [⟨some 78, none, false, .iad 1 (.t 74) (.t 76)⟩,
  ⟨some 79, none, false, .ldc (.t 78)⟩,
  ⟨some 8, none, false, .mv (.t 79)⟩] (some [0, 8, 74, 75, 76])
def ir39_r15 : IC := .draw [(⟨some 80, none, false, .mv (.t 8)⟩, false, 0, 0),
  (⟨some 81, none, false, .nilck (.t 80)⟩, false, 1, 0),
  (⟨some 82, none, false, .fad 1 (.t 81)⟩, false, 3, 0),
  (⟨some 83, none, false, .ldc (.t 82)⟩, true, 7, 1),
  (⟨some 84, none, false, .gen (.binOp .eql 140 (.tmp 83) (.const (.pointer none)) 140)⟩, false, 15, 0),
  (⟨some 85, none, false, .mv (.t 84)⟩, false, 31, 0),
  (⟨some 86, some (85, true), false, .mv (.t 0)⟩, false, 63, 0),
  (⟨some 87, some (85, true), false, .mv (.t 8)⟩, false, 63, 0),
  (⟨some 88, some (85, true), false, .call (.f 93) [(.t 86), (.t 87)]⟩, true, 255, 1),
  (⟨some 89, some (85, true), false, .not (.t 88)⟩, false, 511, 0),
  (⟨some 90, none, false, .pick (.t 85) (.t 89) (.k (.bool false))⟩, false, 1023, 0),
  (⟨some 91, none, false, .mv (.t 90)⟩, false, 2047, 0),
  (⟨some 92, some (91, true), false, .mv (.t 0)⟩, false, 4095, 0),
  (⟨some 93, some (91, true), false, .nilck (.t 92)⟩, false, 8191, 0),
  (⟨some 94, some (91, true), false, .fad 4 (.t 93)⟩, false, 16383, 0),
  (⟨some 95, some (91, true), false, .ldc (.t 94)⟩, false, 32767, 1),
  (⟨some 96, some (91, true), false, .mv (.t 8)⟩, false, 4095, 0),
  (⟨some 97, some (91, true), false, .nilck (.t 96)⟩, false, 69631, 0),
  (⟨some 98, some (91, true), false, .fad 2 (.t 97)⟩, false, 200703, 0),
  (⟨some 99, some (91, true), false, .ldc (.t 98)⟩, false, 462847, 32768),
  (⟨some 100, some (91, true), false, .ar .sub (.t 95) (.t 99)⟩, false, 1048575, 0),
  (⟨some 101, some (91, true), false, .mv (.t 0)⟩, false, 4095, 0),
  (⟨some 102, some (91, true), false, .nilck (.t 101)⟩, false, 2101247, 0),
  (⟨some 103, some (91, true), false, .fad 1 (.t 102)⟩, false, 6295551, 0),
  (⟨some 104, some (91, true), false, .ldc (.t 103)⟩, false, 14684159, 491520),
  (⟨some 105, some (91, true), false, .mv (.t 8)⟩, false, 4095, 0),
  (⟨some 106, some (91, true), false, .nilck (.t 105)⟩, false, 33558527, 0),
  (⟨some 107, some (91, true), false, .fad 0 (.t 106)⟩, false, 100667391, 0),
  (⟨some 108, some (91, true), false, .ldc (.t 107)⟩, false, 234885119, 15171584),
  (⟨some 109, some (91, true), false, .iad 2 (.t 104) (.t 108)⟩, false, 534777855, 0),
  (⟨some 110, some (91, true), false, .fad 1 (.t 109)⟩, false, 1071648767, 0),
  (⟨some 111, some (91, true), false, .ldc (.t 110)⟩, false, 2145390591, 491520),
  (⟨some 112, some (91, true), false, .cmp .gtr (.t 100) (.t 111)⟩, false, 4294967295, 0),
  (⟨some 113, none, false, .pick (.t 91) (.t 112) (.k (.bool false))⟩, false, 8589934591, 0)] (some [0, 8, 74, 75, 76, 113])
def ir39_r16 : IC := .reg [⟨some 114, none, false, .mv (.t 8)⟩,
  ⟨some 115, none, false, .call (.f 94) [(.t 114), (.k (.int .u8 2))]⟩] (some [0, 74, 75, 76])
def ir39_20 : IC := .cond (.t 113) ir39_r16 .skip
def ir39_21 : IC := .seq ir39_r15 ir39_20
def ir39_22 : IC := .seq ir39_r14 ir39_21
def ir39_23 : IC := .block 4 ir39_22
def ir39_r17 : IC := .reg [⟨some 116, none, false, .ar .add (.t 76) (.k (.int .i64 1))⟩,
  ⟨some 76, none, false, .mv (.t 116)⟩] (some [0, 74, 75, 76])
def ir39_24 : IC := .seq ir39_23 ir39_r17
def ir39_25 : IC := .seq ir39_19 ir39_24
def ir39_26 : IC := .seq ir39_r13 ir39_25
def ir39_27 : IC := .loop ir39_26
def ir39_28 : IC := .block 3 ir39_27
def ir39_29 : IC := .seq ir39_r12 ir39_28
def ir39_r18 : IC := .reg [⟨some 4, none, false, .mv (.k (.int .i64 0))⟩] (some [4])
def ir39_30 : IC := .seq ir39_r18 .ret
def ir39_31 : IC := .seq ir39_29 ir39_30
def ir39_32 : IC := .seq ir39_18 ir39_31
def ir39_33 : IC := .seq ir39_r5 ir39_32
def ir39_34 : IC := .seq ir39_7 ir39_33
def ir39_35 : IC := .seq ir39_r0 ir39_34
def ir39 : IC := ir39_35
theorem fn39 : FnIs Try.prog 39 ir39 117 [.tmp 4] := ⟨Try.f39, Try.f39.body.getD .skip, Try.func39, by kernel_rfl, by kernel_rfl, by kernel_rfl, by kernel_rfl⟩
/- boule/bouleref11.Enter · slots 27 · names 0:s 1:s · results [2, 3, 4] -/
def ir62_r0 : IC := .reg [⟨some 1, none, false, .box (.t 0)⟩,
  ⟨some 2, none, false, .alloc [(.bool false), (.slice none 0 0), (.slice none 0 0), (.slice none 0 0), (.int .i64 0), (.slice none 0 0), (.slice none 0 0), (.slice none 0 0)]⟩,
  ⟨some 3, none, false, .mv (.k (.int .i64 0))⟩,
  ⟨some 4, none, false, .mv (.k (.int .i64 0))⟩] (some [1, 2])
def ir62_r1 : IC := .reg [⟨some 5, none, false, .fad 0 (.t 1)⟩,
  ⟨some 6, none, false, .ldc (.t 5)⟩] (some [1, 2, 6])
def ir62_r2 : IC := .reg [⟨some 7, none, false, .lda 8 (.t 1)⟩,
  ⟨none, none, false, .st 8 (.t 2) (.t 7)⟩,
  ⟨some 3, none, false, .mv (.k (.int .i64 0))⟩,
  ⟨some 4, none, false, .mv (.k (.int .i64 1))⟩] (some [2, 3, 4])
def ir62_1 : IC := .seq ir62_r2 .ret
def ir62_2 : IC := .cond (.t 6) ir62_1 .skip
def ir62_3 : IC := .seq ir62_r1 ir62_2
def ir62_r3 : IC := .reg [⟨some 8, none, false, .fad 5 (.t 1)⟩,
  ⟨some 9, none, false, .ldc (.t 8)⟩,
  ⟨some 10, none, false, .len (.t 9)⟩,
  ⟨some 11, none, false, .cmp .geq (.t 10) (.k (.int .i64 40))⟩] (some [1, 2, 11])
def ir62_r4 : IC := .reg [⟨some 12, none, false, .lda 8 (.t 1)⟩,
  ⟨none, none, false, .st 8 (.t 2) (.t 12)⟩,
  ⟨some 3, none, false, .mv (.k (.int .i64 0))⟩,
  ⟨some 4, none, false, .mv (.k (.int .i64 8))⟩] (some [2, 3, 4])
def ir62_4 : IC := .seq ir62_r4 .ret
def ir62_5 : IC := .cond (.t 11) ir62_4 .skip
def ir62_6 : IC := .seq ir62_r3 ir62_5
def ir62_r5 : IC := .reg [⟨some 13, none, false, .lda 8 (.t 1)⟩,
  ⟨some 14, none, false, .call (.f 100) [(.t 13)]⟩,
  ⟨none, none, false, .st 8 (.t 1) (.t 14)⟩] (some [1, 2])
def ir62_r6 : IC := .reg [⟨some 15, none, false, .fad 5 (.t 1)⟩,
  ⟨some 16, none, false, .ldc (.t 15)⟩,
  ⟨some 17, none, false, .fad 4 (.t 1)⟩,
  ⟨some 18, none, false, .ldc (.t 17)⟩,
  ⟨some 19, none, false, .bld [(.int .i64 0), (.int .i64 0), (.int .i64 0), (.int .u8 0), (.int .i64 0)] [(1, 1, (.k (.int .i64 (-1)))), (2, 1, (.t 18))]⟩,
  ⟨some 20, none, false, .bsl 5 1 [(.int .i64 0), (.int .i64 0), (.int .i64 0), (.int .u8 0), (.int .i64 0)] [(0, (.t 19))]⟩,
  ⟨some 21, none, false, .app 5 40 (.t 16) (.t 20)⟩,
  ⟨some 22, none, false, .fad 5 (.t 1)⟩,
  ⟨none, none, false, .st 1 (.t 22) (.t 21)⟩] (some [1, 2])
def ir62_r7 : IC := .draw [(⟨some 23, none, false, .lda 8 (.t 1)⟩, false, 0, 1),
  (⟨some 24, none, false, .fad 5 (.t 1)⟩, false, 0, 0),
  (⟨some 25, none, false, .ldc (.t 24)⟩, false, 2, 1),
  (⟨some 26, none, false, .len (.t 25)⟩, false, 6, 1),
  (⟨none, none, false, .st 8 (.t 2) (.t 23)⟩, false, 1, 7),
  (⟨some 3, none, false, .mv (.t 26)⟩, false, 31, 0),
  (⟨some 4, none, false, .mv (.k (.int .i64 0))⟩, false, 63, 0)] (some [2, 3, 4])
def ir62_7 : IC := .seq ir62_r7 .ret
def ir62_8 : IC := .seq ir62_r6 ir62_7
def ir62_9 : IC := .seq ir62_r5 ir62_8
def ir62_10 : IC := .seq ir62_6 ir62_9
def ir62_11 : IC := .seq ir62_3 ir62_10
def ir62_12 : IC := .seq ir62_r0 ir62_11
def ir62 : IC := ir62_12
theorem fn62 : FnIs Try.prog 62 ir62 27 [.cell 2 75, .tmp 3, .tmp 4] := ⟨Try.f62, Try.f62.body.getD .skip, Try.func62, by kernel_rfl, by kernel_rfl, by kernel_rfl, by kernel_rfl⟩
/- boule/bouleref11.Start · slots 237 · names 0:s 1:tool 2:recipe 3:lots 4:s 5:tool 6:recipe 7:lots 10:e 11:i 12:i 13:t 14:p 15:i 16:x 17:r 18:i · results [8, 9] -/
def ir63_r0 : IC := .reg [⟨some 4, none, false, .box (.t 0)⟩,
  ⟨some 8, none, false, .alloc [(.bool false), (.slice none 0 0), (.slice none 0 0), (.slice none 0 0), (.int .i64 0), (.slice none 0 0), (.slice none 0 0), (.slice none 0 0)]⟩,
  ⟨some 9, none, false, .mv (.k (.int .i64 0))⟩] (some [1, 2, 3, 4, 8])
def ir63_r1 : IC := .reg [⟨some 19, none, false, .lda 8 (.t 4)⟩,
  ⟨some 20, none, false, .mv (.t 1)⟩,
  ⟨some 21, none, false, .call (.f 101) [(.t 19), (.t 20)]⟩,
  ⟨some 10, none, false, .mv (.t 21)⟩] (some [1, 2, 3, 4, 8, 10])
def ir63_r2 : IC := .reg [⟨some 22, none, false, .mv (.t 10)⟩,
  ⟨some 23, none, false, .cmp .neq (.t 22) (.k (.int .i64 0))⟩] (some [1, 2, 3, 4, 8, 10, 23])
def ir63_r3 : IC := .reg [⟨some 24, none, false, .lda 8 (.t 4)⟩,
  ⟨some 25, none, false, .mv (.t 10)⟩,
  ⟨none, none, false, .st 8 (.t 8) (.t 24)⟩,
  ⟨some 9, none, false, .mv (.t 25)⟩] (some [8, 9])
def ir63_1 : IC := .seq ir63_r3 .ret
def ir63_2 : IC := .cond (.t 23) ir63_1 .skip
def ir63_3 : IC := .seq ir63_r2 ir63_2
def ir63_4 : IC := .seq ir63_r1 ir63_3
def ir63_r4 : IC := .reg [⟨some 26, none, false, .mv (.t 2)⟩,
  ⟨some 27, none, false, .fad 1 (.t 4)⟩,
  ⟨some 28, none, false, .fad 1 (.t 27)⟩,
  ⟨some 29, none, false, .ldc (.t 28)⟩,
  ⟨some 30, none, false, .len (.t 29)⟩,
  ⟨some 31, none, false, .ar .sub (.t 30) (.k (.int .i64 1))⟩,
  ⟨some 32, none, false, .call (.f 48) [(.t 26), (.k (.int .i64 0)), (.t 31)]⟩,
  ⟨some 33, none, false, .not (.t 32)⟩] (some [1, 2, 3, 4, 8, 33])
def ir63_r5 : IC := .reg [⟨some 34, none, false, .lda 8 (.t 4)⟩,
  ⟨none, none, false, .st 8 (.t 8) (.t 34)⟩,
  ⟨some 9, none, false, .mv (.k (.int .i64 7))⟩] (some [8, 9])
def ir63_5 : IC := .seq ir63_r5 .ret
def ir63_6 : IC := .cond (.t 33) ir63_5 .skip
def ir63_7 : IC := .seq ir63_r4 ir63_6
def ir63_r6 : IC := .reg [⟨some 11, none, false, .mv (.k (.int .i64 0))⟩] (some [1, 2, 3, 4, 8, 11])
def ir63_r7 : IC := .reg [⟨some 35, none, false, .mv (.t 11)⟩,
  ⟨some 36, none, false, .mv (.t 3)⟩,
  ⟨some 37, none, false, .len (.t 36)⟩,
  ⟨some 38, none, false, .cmp .lss (.t 35) (.t 37)⟩] (some [1, 2, 3, 4, 8, 11, 38])
def ir63_8 : IC := .cond (.t 38) .skip (.exit 0)
def ir63_9 : IC := .seq ir63_r7 ir63_8
def ir63_r9 : IC := .draw [(⟨some 41, none, false, .mv (.t 11)⟩, false, 0, 0),
  (⟨some 42, none, false, .cmp .gtr (.t 41) (.k (.int .i64 0))⟩, false, 1, 0),
  (⟨some 43, none, false, .mv (.t 42)⟩, false, 3, 0),
  (⟨some 44, some (43, true), false, .mv (.t 3)⟩, false, 7, 0),
  (⟨some 45, some (43, true), false, .mv (.t 11)⟩, false, 7, 0),
  (⟨some 46, some (43, true), false, .ar .sub (.t 45) (.k (.int .i64 1))⟩, false, 23, 0),
  (⟨some 47, some (43, true), false, .iad 1 (.t 44) (.t 46)⟩, false, 63, 0),
  (⟨some 48, some (43, true), false, .ldc (.t 47)⟩, false, 127, 1),
  (⟨some 49, some (43, true), false, .mv (.t 3)⟩, false, 7, 0),
  (⟨some 50, some (43, true), false, .mv (.t 11)⟩, false, 7, 0),
  (⟨some 51, some (43, true), false, .iad 1 (.t 49) (.t 50)⟩, false, 775, 0),
  (⟨some 52, some (43, true), false, .ldc (.t 51)⟩, false, 1799, 128),
  (⟨some 53, some (43, true), false, .cmp .geq (.t 48) (.t 52)⟩, false, 4095, 0),
  (⟨some 54, none, false, .pick (.t 43) (.t 53) (.k (.bool false))⟩, false, 8191, 0)] (some [1, 2, 3, 4, 8, 11, 54])
def ir63_r10 : IC := .reg [⟨some 55, none, false, .lda 8 (.t 4)⟩,
  ⟨none, none, false, .st 8 (.t 8) (.t 55)⟩,
  ⟨some 9, none, false, .mv (.k (.int .i64 2))⟩] (some [8, 9])
def ir63_10 : IC := .seq ir63_r10 .ret
def ir63_11 : IC := .cond (.t 54) ir63_10 .skip
def ir63_12 : IC := .seq ir63_r9 ir63_11
def ir63_13 : IC := .block 1 ir63_12
def ir63_r8 : IC := .reg [⟨some 39, none, false, .mv (.t 11)⟩,
  ⟨some 40, none, false, .ar .add (.t 39) (.k (.int .i64 1))⟩,
  ⟨some 11, none, false, .mv (.t 40)⟩] (some [1, 2, 3, 4, 8, 11])
def ir63_14 : IC := .seq ir63_13 ir63_r8
def ir63_15 : IC := .seq ir63_9 ir63_14
def ir63_16 : IC := .loop ir63_15
def ir63_17 : IC := .block 0 ir63_16
def ir63_18 : IC := .seq ir63_r6 ir63_17
def ir63_r11 : IC := .reg [⟨some 56, none, false, .mv (.t 3)⟩,
  ⟨some 57, none, false, .len (.t 56)⟩,
  ⟨some 58, none, false, .cmp .eql (.t 57) (.k (.int .i64 0))⟩] (some [1, 2, 3, 4, 8, 58])
def ir63_r12 : IC := .reg [⟨some 59, none, false, .lda 8 (.t 4)⟩,
  ⟨none, none, false, .st 8 (.t 8) (.t 59)⟩,
  ⟨some 9, none, false, .mv (.k (.int .i64 2))⟩] (some [8, 9])
def ir63_19 : IC := .seq ir63_r12 .ret
def ir63_20 : IC := .cond (.t 58) ir63_19 .skip
def ir63_21 : IC := .seq ir63_r11 ir63_20
def ir63_r13 : IC := .reg [⟨some 12, none, false, .mv (.k (.int .i64 0))⟩] (some [1, 2, 3, 4, 8, 12])
def ir63_r14 : IC := .reg [⟨some 60, none, false, .mv (.t 12)⟩,
  ⟨some 61, none, false, .mv (.t 3)⟩,
  ⟨some 62, none, false, .len (.t 61)⟩,
  ⟨some 63, none, false, .cmp .lss (.t 60) (.t 62)⟩] (some [1, 2, 3, 4, 8, 12, 63])
def ir63_22 : IC := .cond (.t 63) .skip (.exit 2)
def ir63_23 : IC := .seq ir63_r14 ir63_22
def ir63_r16 : IC := .draw [(⟨some 66, none, false, .lda 8 (.t 4)⟩, false, 0, 1),
  (⟨some 67, none, false, .mv (.t 3)⟩, false, 0, 0),
  (⟨some 68, none, false, .mv (.t 12)⟩, false, 0, 0),
  (⟨some 69, none, false, .iad 1 (.t 67) (.t 68)⟩, false, 6, 0),
  (⟨some 70, none, false, .ldc (.t 69)⟩, false, 14, 1),
  (⟨some 71, none, false, .call (.f 102) [(.t 66), (.t 70)]⟩, true, 31, 1),
  (⟨some 72, none, false, .cmp .neq (.t 71) (.k (.int .i64 0))⟩, false, 63, 0)] (some [1, 2, 3, 4, 8, 12, 72])
def ir63_r17 : IC := .reg [⟨some 73, none, false, .lda 8 (.t 4)⟩,
  ⟨none, none, false, .st 8 (.t 8) (.t 73)⟩,
  ⟨some 9, none, false, .mv (.k (.int .i64 7))⟩] (some [8, 9])
def ir63_24 : IC := .seq ir63_r17 .ret
def ir63_25 : IC := .cond (.t 72) ir63_24 .skip
def ir63_26 : IC := .seq ir63_r16 ir63_25
def ir63_27 : IC := .block 3 ir63_26
def ir63_r15 : IC := .reg [⟨some 64, none, false, .mv (.t 12)⟩,
  ⟨some 65, none, false, .ar .add (.t 64) (.k (.int .i64 1))⟩,
  ⟨some 12, none, false, .mv (.t 65)⟩] (some [1, 2, 3, 4, 8, 12])
def ir63_28 : IC := .seq ir63_27 ir63_r15
def ir63_29 : IC := .seq ir63_23 ir63_28
def ir63_30 : IC := .loop ir63_29
def ir63_31 : IC := .block 2 ir63_30
def ir63_32 : IC := .seq ir63_r13 ir63_31
def ir63_r18 : IC := .draw [(⟨some 74, none, false, .fad 6 (.t 4)⟩, false, 0, 0),
  (⟨some 75, none, false, .ldc (.t 74)⟩, false, 1, 1),
  (⟨some 76, none, false, .mv (.t 1)⟩, false, 0, 0),
  (⟨some 77, none, false, .iad 7 (.t 75) (.t 76)⟩, false, 7, 0),
  (⟨some 78, none, false, .lda 7 (.t 77)⟩, false, 15, 1),
  (⟨some 79, none, false, .fad 1 (.t 4)⟩, false, 0, 0),
  (⟨some 80, none, false, .fad 0 (.t 79)⟩, false, 32, 0),
  (⟨some 81, none, false, .ldc (.t 80)⟩, false, 96, 16),
  (⟨some 82, none, false, .mv (.t 1)⟩, false, 0, 0),
  (⟨some 83, none, false, .iad 5 (.t 81) (.t 82)⟩, false, 480, 0),
  (⟨some 84, none, false, .lda 5 (.t 83)⟩, false, 992, 16),
  (⟨some 13, none, false, .alloc [(.int .i64 0), (.int .i64 0), (.slice none 0 0), (.int .i64 0), (.bool false), (.int .i64 0), (.slice none 0 0)]⟩, false, 0, 1008),
  (⟨some 14, none, false, .alloc [(.int .i64 0), (.int .i64 0), (.int .i64 0), (.int .i64 0), (.slice none 0 0)]⟩, false, 0, 1008),
  (⟨none, none, false, .st 7 (.t 13) (.t 78)⟩, false, 6175, 993),
  (⟨none, none, false, .st 5 (.t 14) (.t 84)⟩, true, 16383, 1)] (some [1, 2, 3, 4, 8, 13, 14])
def ir63_r19 : IC := .reg [⟨some 86, none, false, .mv (.t 3)⟩,
  ⟨some 87, none, false, .len (.t 86)⟩,
  ⟨some 88, none, false, .fad 1 (.t 14)⟩,
  ⟨some 89, none, false, .ldc (.t 88)⟩,
  ⟨some 90, none, false, .cmp .gtr (.t 87) (.t 89)⟩,
  ⟨some 85, none, false, .mv (.t 90)⟩] (some [1, 2, 3, 4, 8, 13, 14, 85])
def ir63_r20 : IC := .reg [⟨some 91, none, false, .lda 8 (.t 4)⟩,
  ⟨none, none, false, .st 8 (.t 8) (.t 91)⟩,
  ⟨some 9, none, false, .mv (.k (.int .i64 5))⟩] (some [8, 9])
def ir63_33 : IC := .seq ir63_r20 .ret
def ir63_r21 : IC := .reg [⟨some 93, none, false, .fad 0 (.t 13)⟩,
  ⟨some 94, none, false, .ldc (.t 93)⟩,
  ⟨some 95, none, false, .cmp .geq (.t 94) (.k (.int .i64 0))⟩,
  ⟨some 92, none, false, .mv (.t 95)⟩] (some [1, 2, 3, 4, 8, 13, 14, 92])
def ir63_r22 : IC := .reg [⟨some 96, none, false, .lda 8 (.t 4)⟩,
  ⟨none, none, false, .st 8 (.t 8) (.t 96)⟩,
  ⟨some 9, none, false, .mv (.k (.int .i64 9))⟩] (some [8, 9])
def ir63_34 : IC := .seq ir63_r22 .ret
def ir63_r23 : IC := .reg [⟨some 98, none, false, .fad 4 (.t 13)⟩,
  ⟨some 99, none, false, .ldc (.t 98)⟩,
  ⟨some 97, none, false, .mv (.t 99)⟩] (some [1, 2, 3, 4, 8, 13, 14, 97])
def ir63_r24 : IC := .reg [⟨some 100, none, false, .lda 8 (.t 4)⟩,
  ⟨none, none, false, .st 8 (.t 8) (.t 100)⟩,
  ⟨some 9, none, false, .mv (.k (.int .i64 110))⟩] (some [8, 9])
def ir63_35 : IC := .seq ir63_r24 .ret
def ir63_r25 : IC := .reg [⟨some 102, none, false, .fad 0 (.t 14)⟩,
  ⟨some 103, none, false, .ldc (.t 102)⟩,
  ⟨some 104, none, false, .mv (.t 2)⟩,
  ⟨some 105, none, false, .conv .u64 (.t 104)⟩,
  ⟨some 106, none, false, .shf .shr (.t 103) (.t 105)⟩,
  ⟨some 107, none, false, .bits .and (.t 106) (.k (.int .i64 1))⟩,
  ⟨some 108, none, false, .cmp .eql (.t 107) (.k (.int .i64 0))⟩,
  ⟨some 101, none, false, .mv (.t 108)⟩] (some [1, 2, 3, 4, 8, 13, 14, 101])
def ir63_r26 : IC := .reg [⟨some 109, none, false, .lda 8 (.t 4)⟩,
  ⟨none, none, false, .st 8 (.t 8) (.t 109)⟩,
  ⟨some 9, none, false, .mv (.k (.int .i64 111))⟩] (some [8, 9])
def ir63_36 : IC := .seq ir63_r26 .ret
def ir63_37 : IC := .cond (.t 101) ir63_36 .skip
def ir63_38 : IC := .seq ir63_r25 ir63_37
def ir63_39 : IC := .cond (.t 97) ir63_35 ir63_38
def ir63_40 : IC := .seq ir63_r23 ir63_39
def ir63_41 : IC := .cond (.t 92) ir63_34 ir63_40
def ir63_42 : IC := .seq ir63_r21 ir63_41
def ir63_43 : IC := .cond (.t 85) ir63_33 ir63_42
def ir63_44 : IC := .seq ir63_r19 ir63_43
def ir63_45 : IC := .block 4 ir63_44
def ir63_r27 : IC := .reg [⟨some 15, none, false, .mv (.k (.int .i64 0))⟩] (some [1, 2, 3, 4, 8, 13, 14, 15])
def ir63_r28 : IC := .reg [⟨some 110, none, false, .mv (.t 15)⟩,
  ⟨some 111, none, false, .mv (.t 3)⟩,
  ⟨some 112, none, false, .len (.t 111)⟩,
  ⟨some 113, none, false, .cmp .lss (.t 110) (.t 112)⟩] (some [1, 2, 3, 4, 8, 13, 14, 15, 113])
def ir63_46 : IC := .cond (.t 113) .skip (.exit 5)
def ir63_47 : IC := .seq ir63_r28 ir63_46
def ir63_r30 : IC := .draw [(⟨some 116, none, false, .fad 5 (.t 4)⟩, false, 0, 0),
  (⟨some 117, none, false, .ldc (.t 116)⟩, false, 1, 1),
  (⟨some 118, none, false, .mv (.t 3)⟩, false, 0, 0),
  (⟨some 119, none, false, .mv (.t 15)⟩, false, 0, 0),
  (⟨some 120, none, false, .iad 1 (.t 118) (.t 119)⟩, false, 12, 0),
  (⟨some 121, none, false, .ldc (.t 120)⟩, false, 28, 2),
  (⟨some 122, none, false, .ar .sub (.t 121) (.k (.int .i64 1))⟩, false, 60, 0),
  (⟨some 123, none, false, .iad 5 (.t 117) (.t 122)⟩, false, 127, 0),
  (⟨some 124, none, false, .lda 5 (.t 123)⟩, false, 255, 1),
  (⟨some 16, none, false, .alloc [(.int .i64 0), (.int .i64 0), (.int .i64 0), (.int .u8 0), (.int .i64 0)]⟩, false, 0, 256),
  (⟨none, none, false, .st 5 (.t 16) (.t 124)⟩, true, 1023, 1)] (some [1, 2, 3, 4, 8, 13, 14, 15, 16])
def ir63_r31 : IC := .reg [⟨some 126, none, false, .fad 1 (.t 16)⟩,
  ⟨some 127, none, false, .ldc (.t 126)⟩,
  ⟨some 128, none, false, .cmp .geq (.t 127) (.k (.int .i64 0))⟩,
  ⟨some 129, none, false, .mv (.t 128)⟩,
  ⟨some 130, some (129, false), false, .fad 0 (.t 16)⟩,
  ⟨some 131, some (129, false), false, .ldc (.t 130)⟩,
  ⟨some 132, some (129, false), false, .fad 1 (.t 4)⟩,
  ⟨some 133, some (129, false), false, .fad 2 (.t 132)⟩,
  ⟨some 134, some (129, false), false, .ldc (.t 133)⟩,
  ⟨some 135, some (129, false), false, .len (.t 134)⟩,
  ⟨some 136, some (129, false), false, .cmp .eql (.t 131) (.t 135)⟩,
  ⟨some 137, none, false, .pick (.t 129) (.k (.bool true)) (.t 136)⟩,
  ⟨some 125, none, false, .mv (.t 137)⟩] (some [1, 2, 3, 4, 8, 13, 14, 15, 16, 125])
def ir63_r32 : IC := .reg [⟨some 138, none, false, .lda 8 (.t 4)⟩,
  ⟨none, none, false, .st 8 (.t 8) (.t 138)⟩,
  ⟨some 9, none, false, .mv (.k (.int .i64 9))⟩] (some [8, 9])
def ir63_48 : IC := .seq ir63_r32 .ret
def ir63_r33 : IC := .reg [⟨some 140, none, false, .fad 3 (.t 16)⟩,
  ⟨some 141, none, false, .ldc (.t 140)⟩,
  ⟨some 142, none, false, .cmp .neq (.t 141) (.k (.int .u8 0))⟩,
  ⟨some 139, none, false, .mv (.t 142)⟩] (some [1, 2, 3, 4, 8, 13, 14, 15, 16, 139])
def ir63_r34 : IC := .reg [⟨some 143, none, false, .lda 8 (.t 4)⟩,
  ⟨none, none, false, .st 8 (.t 8) (.t 143)⟩,
  ⟨some 9, none, false, .mv (.k (.int .i64 110))⟩] (some [8, 9])
def ir63_49 : IC := .seq ir63_r34 .ret
def ir63_r35 : IC := .reg [⟨some 145, none, false, .fad 1 (.t 4)⟩,
  ⟨some 146, none, false, .fad 2 (.t 145)⟩,
  ⟨some 147, none, false, .ldc (.t 146)⟩,
  ⟨some 148, none, false, .fad 0 (.t 16)⟩,
  ⟨some 149, none, false, .ldc (.t 148)⟩,
  ⟨some 150, none, false, .iad 2 (.t 147) (.t 149)⟩,
  ⟨some 151, none, false, .fad 0 (.t 150)⟩,
  ⟨some 152, none, false, .ldc (.t 151)⟩,
  ⟨some 153, none, false, .mv (.t 2)⟩,
  ⟨some 154, none, false, .cmp .neq (.t 152) (.t 153)⟩,
  ⟨some 144, none, false, .mv (.t 154)⟩] (some [1, 2, 3, 4, 8, 13, 14, 15, 144])
def ir63_r36 : IC := .reg [⟨some 155, none, false, .lda 8 (.t 4)⟩,
  ⟨none, none, false, .st 8 (.t 8) (.t 155)⟩,
  ⟨some 9, none, false, .mv (.k (.int .i64 112))⟩] (some [8, 9])
def ir63_50 : IC := .seq ir63_r36 .ret
def ir63_51 : IC := .cond (.t 144) ir63_50 .skip
def ir63_52 : IC := .seq ir63_r35 ir63_51
def ir63_53 : IC := .cond (.t 139) ir63_49 ir63_52
def ir63_54 : IC := .seq ir63_r33 ir63_53
def ir63_55 : IC := .cond (.t 125) ir63_48 ir63_54
def ir63_56 : IC := .seq ir63_r31 ir63_55
def ir63_57 : IC := .block 7 ir63_56
def ir63_58 : IC := .seq ir63_r30 ir63_57
def ir63_59 : IC := .block 6 ir63_58
def ir63_r29 : IC := .reg [⟨some 114, none, false, .mv (.t 15)⟩,
  ⟨some 115, none, false, .ar .add (.t 114) (.k (.int .i64 1))⟩,
  ⟨some 15, none, false, .mv (.t 115)⟩] (some [1, 2, 3, 4, 8, 13, 14, 15])
def ir63_60 : IC := .seq ir63_59 ir63_r29
def ir63_61 : IC := .seq ir63_47 ir63_60
def ir63_62 : IC := .loop ir63_61
def ir63_63 : IC := .block 5 ir63_62
def ir63_64 : IC := .seq ir63_r27 ir63_63
def ir63_r37 : IC := .reg [⟨some 156, none, false, .fad 1 (.t 4)⟩,
  ⟨some 157, none, false, .fad 1 (.t 156)⟩,
  ⟨some 158, none, false, .ldc (.t 157)⟩,
  ⟨some 159, none, false, .mv (.t 2)⟩,
  ⟨some 160, none, false, .iad 2 (.t 158) (.t 159)⟩,
  ⟨some 161, none, false, .lda 2 (.t 160)⟩,
  ⟨some 17, none, false, .alloc [(.int .i64 0), (.int .i64 0)]⟩,
  ⟨none, none, false, .st 2 (.t 17) (.t 161)⟩] (some [1, 2, 3, 4, 8, 13, 14, 17])
def ir63_r38 : IC := .reg [⟨some 162, none, false, .fad 3 (.t 13)⟩,
  ⟨some 163, none, false, .ldc (.t 162)⟩,
  ⟨some 164, none, false, .fad 1 (.t 17)⟩,
  ⟨some 165, none, false, .ldc (.t 164)⟩,
  ⟨some 166, none, false, .ar .add (.t 163) (.t 165)⟩,
  ⟨some 167, none, false, .fad 2 (.t 14)⟩,
  ⟨some 168, none, false, .ldc (.t 167)⟩,
  ⟨some 169, none, false, .cmp .gtr (.t 166) (.t 168)⟩] (some [1, 2, 3, 4, 8, 13, 17, 169])
def ir63_r39 : IC := .reg [⟨some 170, none, false, .lda 8 (.t 4)⟩,
  ⟨none, none, false, .st 8 (.t 8) (.t 170)⟩,
  ⟨some 9, none, false, .mv (.k (.int .i64 113))⟩] (some [8, 9])
def ir63_65 : IC := .seq ir63_r39 .ret
def ir63_66 : IC := .cond (.t 169) ir63_65 .skip
def ir63_67 : IC := .seq ir63_r38 ir63_66
def ir63_r40 : IC := .reg [⟨some 171, none, false, .lda 8 (.t 4)⟩,
  ⟨some 172, none, false, .call (.f 100) [(.t 171)]⟩,
  ⟨none, none, false, .st 8 (.t 4) (.t 172)⟩] (some [1, 2, 3, 4, 8, 13, 17])
def ir63_r41 : IC := .draw [(⟨some 173, none, false, .mv (.t 2)⟩, false, 0, 0),
  (⟨some 174, none, false, .fad 4 (.t 4)⟩, false, 0, 0),
  (⟨some 175, none, false, .ldc (.t 174)⟩, false, 2, 1),
  (⟨some 176, none, false, .fad 0 (.t 17)⟩, false, 0, 0),
  (⟨some 177, none, false, .ldc (.t 176)⟩, false, 8, 3),
  (⟨some 178, none, false, .ar .add (.t 175) (.t 177)⟩, false, 30, 0),
  (⟨some 179, none, false, .fad 3 (.t 13)⟩, false, 0, 0),
  (⟨some 180, none, false, .ldc (.t 179)⟩, false, 64, 11),
  (⟨some 181, none, false, .fad 1 (.t 17)⟩, false, 0, 0),
  (⟨some 182, none, false, .ldc (.t 181)⟩, false, 256, 75),
  (⟨some 183, none, false, .ar .add (.t 180) (.t 182)⟩, false, 960, 0),
  (⟨some 184, none, false, .bsl 1 0 [] []⟩, false, 0, 331),
  (⟨some 185, none, false, .mv (.t 3)⟩, false, 0, 0),
  (⟨some 186, none, false, .app 1 8 (.t 184) (.t 185)⟩, false, 6144, 331),
  (⟨some 187, none, false, .fad 0 (.t 13)⟩, false, 193, 0),
  (⟨none, none, false, .st 1 (.t 187) (.t 173)⟩, false, 30913, 267),
  (⟨some 188, none, false, .fad 1 (.t 13)⟩, false, 63743, 0),
  (⟨none, none, false, .st 1 (.t 188) (.t 178)⟩, false, 129279, 257),
  (⟨some 189, none, false, .fad 3 (.t 13)⟩, false, 262143, 0),
  (⟨none, none, false, .st 1 (.t 189) (.t 183)⟩, true, 524287, 1),
  (⟨some 190, none, false, .fad 2 (.t 13)⟩, false, 1048575, 0),
  (⟨none, none, false, .st 1 (.t 190) (.t 186)⟩, true, 2097151, 1)] (some [1, 3, 4, 8, 13])
def ir63_r42 : IC := .draw [(⟨some 191, none, false, .fad 6 (.t 4)⟩, false, 0, 0),
  (⟨some 192, none, false, .ldc (.t 191)⟩, false, 1, 1),
  (⟨some 193, none, false, .mv (.t 1)⟩, false, 0, 0),
  (⟨some 194, none, false, .fad 7 (.t 4)⟩, false, 0, 0),
  (⟨some 195, none, false, .ldc (.t 194)⟩, false, 8, 2),
  (⟨some 196, none, false, .mv (.t 1)⟩, false, 0, 0),
  (⟨some 197, none, false, .lda 7 (.t 13)⟩, false, 0, 10),
  (⟨some 198, none, false, .bsl 1 0 [] []⟩, false, 0, 10),
  (⟨some 199, none, false, .fad 7 (.t 4)⟩, false, 0, 0),
  (⟨some 200, none, false, .ldc (.t 199)⟩, false, 256, 10),
  (⟨some 201, none, false, .mv (.t 1)⟩, false, 0, 0),
  (⟨some 202, none, false, .iad 1 (.t 200) (.t 201)⟩, false, 1792, 0),
  (⟨some 203, none, false, .ldc (.t 202)⟩, false, 3840, 10),
  (⟨some 204, none, false, .app 1 8 (.t 198) (.t 203)⟩, false, 8064, 10),
  (⟨some 205, none, false, .mv (.t 3)⟩, false, 0, 0),
  (⟨some 206, none, false, .app 1 8 (.t 204) (.t 205)⟩, false, 32640, 10),
  (⟨some 207, none, false, .iad 7 (.t 192) (.t 193)⟩, false, 65479, 0),
  (⟨none, none, false, .st 7 (.t 207) (.t 197)⟩, false, 131015, 9),
  (⟨some 208, none, false, .iad 1 (.t 195) (.t 196)⟩, false, 262143, 0),
  (⟨none, none, false, .st 1 (.t 208) (.t 206)⟩, true, 524287, 1)] (some [1, 3, 4, 8])
def ir63_r43 : IC := .reg [⟨some 18, none, false, .mv (.k (.int .i64 0))⟩] (some [1, 3, 4, 8, 18])
def ir63_r44 : IC := .reg [⟨some 209, none, false, .mv (.t 18)⟩,
  ⟨some 210, none, false, .mv (.t 3)⟩,
  ⟨some 211, none, false, .len (.t 210)⟩,
  ⟨some 212, none, false, .cmp .lss (.t 209) (.t 211)⟩] (some [1, 3, 4, 8, 18, 212])
def ir63_68 : IC := .cond (.t 212) .skip (.exit 8)
def ir63_69 : IC := .seq ir63_r44 ir63_68
def ir63_r46 : IC := .draw [(⟨some 215, none, false, .fad 5 (.t 4)⟩, false, 0, 0),
  (⟨some 216, none, false, .ldc (.t 215)⟩, false, 1, 1),
  (⟨some 217, none, false, .mv (.t 3)⟩, false, 0, 0),
  (⟨some 218, none, false, .mv (.t 18)⟩, false, 0, 0),
  (⟨some 219, none, false, .iad 1 (.t 217) (.t 218)⟩, false, 12, 0),
  (⟨some 220, none, false, .ldc (.t 219)⟩, false, 28, 2),
  (⟨some 221, none, false, .ar .sub (.t 220) (.k (.int .i64 1))⟩, false, 60, 0),
  (⟨some 222, none, false, .fad 5 (.t 4)⟩, false, 0, 0),
  (⟨some 223, none, false, .ldc (.t 222)⟩, false, 128, 30),
  (⟨some 224, none, false, .mv (.t 3)⟩, false, 0, 0),
  (⟨some 225, none, false, .mv (.t 18)⟩, false, 0, 0),
  (⟨some 226, none, false, .iad 1 (.t 224) (.t 225)⟩, false, 1536, 0),
  (⟨some 227, none, false, .ldc (.t 226)⟩, false, 3584, 158),
  (⟨some 228, none, false, .ar .sub (.t 227) (.k (.int .i64 1))⟩, false, 7680, 0),
  (⟨some 229, none, false, .mv (.t 1)⟩, false, 0, 0),
  (⟨some 230, none, false, .fad 4 (.t 4)⟩, false, 0, 0),
  (⟨some 231, none, false, .ldc (.t 230)⟩, false, 32768, 3742),
  (⟨some 232, none, false, .iad 5 (.t 216) (.t 221)⟩, false, 24191, 0),
  (⟨some 233, none, false, .fad 1 (.t 232)⟩, false, 155263, 0),
  (⟨none, none, false, .st 1 (.t 233) (.t 229)⟩, false, 417407, 32897),
  (⟨some 234, none, false, .iad 5 (.t 223) (.t 228)⟩, false, 1048575, 0),
  (⟨some 235, none, false, .fad 2 (.t 234)⟩, false, 2097151, 0),
  (⟨none, none, false, .st 1 (.t 235) (.t 231)⟩, true, 4194303, 1)] (some [1, 3, 4, 8, 18])
def ir63_70 : IC := .block 9 ir63_r46
def ir63_r45 : IC := .reg [⟨some 213, none, false, .mv (.t 18)⟩,
  ⟨some 214, none, false, .ar .add (.t 213) (.k (.int .i64 1))⟩,
  ⟨some 18, none, false, .mv (.t 214)⟩] (some [1, 3, 4, 8, 18])
def ir63_71 : IC := .seq ir63_70 ir63_r45
def ir63_72 : IC := .seq ir63_69 ir63_71
def ir63_73 : IC := .loop ir63_72
def ir63_74 : IC := .block 8 ir63_73
def ir63_75 : IC := .seq ir63_r43 ir63_74
def ir63_r47 : IC := .reg [⟨some 236, none, false, .lda 8 (.t 4)⟩,
  ⟨none, none, false, .st 8 (.t 8) (.t 236)⟩,
  ⟨some 9, none, false, .mv (.k (.int .i64 0))⟩] (some [8, 9])
def ir63_76 : IC := .seq ir63_r47 .ret
def ir63_77 : IC := .seq ir63_75 ir63_76
def ir63_78 : IC := .seq ir63_r42 ir63_77
def ir63_79 : IC := .seq ir63_r41 ir63_78
def ir63_80 : IC := .seq ir63_r40 ir63_79
def ir63_81 : IC := .seq ir63_67 ir63_80
def ir63_82 : IC := .seq ir63_r37 ir63_81
def ir63_83 : IC := .seq ir63_64 ir63_82
def ir63_84 : IC := .seq ir63_45 ir63_83
def ir63_85 : IC := .seq ir63_r18 ir63_84
def ir63_86 : IC := .seq ir63_32 ir63_85
def ir63_87 : IC := .seq ir63_21 ir63_86
def ir63_88 : IC := .seq ir63_18 ir63_87
def ir63_89 : IC := .seq ir63_7 ir63_88
def ir63_90 : IC := .seq ir63_4 ir63_89
def ir63_91 : IC := .seq ir63_r0 ir63_90
def ir63 : IC := ir63_91
theorem fn63 : FnIs Try.prog 63 ir63 237 [.cell 8 75, .tmp 9] := ⟨Try.f63, Try.f63.body.getD .skip, Try.func63, by kernel_rfl, by kernel_rfl, by kernel_rfl, by kernel_rfl⟩
/- boule/bouleref11.Tick · slots 125 · names 0:s 1:seconds 2:s 3:seconds 6:i 7:t 8:k 9:i 10:x · results [4, 5] -/
def ir64_r0 : IC := .reg [⟨some 2, none, false, .box (.t 0)⟩,
  ⟨some 4, none, false, .alloc [(.bool false), (.slice none 0 0), (.slice none 0 0), (.slice none 0 0), (.int .i64 0), (.slice none 0 0), (.slice none 0 0), (.slice none 0 0)]⟩,
  ⟨some 5, none, false, .mv (.k (.int .i64 0))⟩] (some [1, 2, 4])
def ir64_r1 : IC := .reg [⟨some 11, none, false, .fad 0 (.t 2)⟩,
  ⟨some 12, none, false, .ldc (.t 11)⟩] (some [1, 2, 4, 12])
def ir64_r2 : IC := .reg [⟨some 13, none, false, .lda 8 (.t 2)⟩,
  ⟨none, none, false, .st 8 (.t 4) (.t 13)⟩,
  ⟨some 5, none, false, .mv (.k (.int .i64 1))⟩] (some [4, 5])
def ir64_1 : IC := .seq ir64_r2 .ret
def ir64_2 : IC := .cond (.t 12) ir64_1 .skip
def ir64_3 : IC := .seq ir64_r1 ir64_2
def ir64_r3 : IC := .reg [⟨some 14, none, false, .mv (.t 1)⟩,
  ⟨some 15, none, false, .call (.f 48) [(.t 14), (.k (.int .i64 1)), (.k (.int .i64 1000000))]⟩,
  ⟨some 16, none, false, .not (.t 15)⟩,
  ⟨some 17, none, false, .mv (.t 16)⟩,
  ⟨some 18, some (17, false), false, .fad 4 (.t 2)⟩,
  ⟨some 19, some (17, false), false, .ldc (.t 18)⟩,
  ⟨some 20, some (17, false), false, .mv (.t 1)⟩,
  ⟨some 21, some (17, false), false, .ar .add (.t 19) (.t 20)⟩,
  ⟨some 22, some (17, false), false, .cmp .gtr (.t 21) (.k (.int .i64 100000000))⟩,
  ⟨some 23, none, false, .pick (.t 17) (.k (.bool true)) (.t 22)⟩] (some [1, 2, 4, 23])
def ir64_r4 : IC := .reg [⟨some 24, none, false, .lda 8 (.t 2)⟩,
  ⟨none, none, false, .st 8 (.t 4) (.t 24)⟩,
  ⟨some 5, none, false, .mv (.k (.int .i64 3))⟩] (some [4, 5])
def ir64_4 : IC := .seq ir64_r4 .ret
def ir64_5 : IC := .cond (.t 23) ir64_4 .skip
def ir64_6 : IC := .seq ir64_r3 ir64_5
def ir64_r5 : IC := .reg [⟨some 25, none, false, .lda 8 (.t 2)⟩,
  ⟨some 26, none, false, .call (.f 100) [(.t 25)]⟩,
  ⟨none, none, false, .st 8 (.t 2) (.t 26)⟩] (some [1, 2, 4])
def ir64_r6 : IC := .reg [⟨some 27, none, false, .fad 4 (.t 2)⟩,
  ⟨some 28, none, false, .ldc (.t 27)⟩,
  ⟨some 29, none, false, .mv (.t 1)⟩,
  ⟨some 30, none, false, .ar .add (.t 28) (.t 29)⟩,
  ⟨some 31, none, false, .fad 4 (.t 2)⟩,
  ⟨none, none, false, .st 1 (.t 31) (.t 30)⟩] (some [2, 4])
def ir64_r7 : IC := .reg [⟨some 6, none, false, .mv (.k (.int .i64 0))⟩] (some [2, 4, 6])
def ir64_r8 : IC := .reg [⟨some 32, none, false, .mv (.t 6)⟩,
  ⟨some 33, none, false, .fad 6 (.t 2)⟩,
  ⟨some 34, none, false, .ldc (.t 33)⟩,
  ⟨some 35, none, false, .len (.t 34)⟩,
  ⟨some 36, none, false, .cmp .lss (.t 32) (.t 35)⟩] (some [2, 4, 6, 36])
def ir64_7 : IC := .cond (.t 36) .skip (.exit 0)
def ir64_8 : IC := .seq ir64_r8 ir64_7
def ir64_r10 : IC := .reg [⟨some 39, none, false, .fad 6 (.t 2)⟩,
  ⟨some 40, none, false, .ldc (.t 39)⟩,
  ⟨some 41, none, false, .mv (.t 6)⟩,
  ⟨some 42, none, false, .iad 7 (.t 40) (.t 41)⟩,
  ⟨some 43, none, false, .lda 7 (.t 42)⟩,
  ⟨some 7, none, false, .alloc [(.int .i64 0), (.int .i64 0), (.slice none 0 0), (.int .i64 0), (.bool false), (.int .i64 0), (.slice none 0 0)]⟩,
  ⟨none, none, false, .st 7 (.t 7) (.t 43)⟩] (some [2, 4, 6, 7])
def ir64_r11 : IC := .reg [⟨some 44, none, false, .fad 0 (.t 7)⟩,
  ⟨some 45, none, false, .ldc (.t 44)⟩,
  ⟨some 46, none, false, .cmp .lss (.t 45) (.k (.int .i64 0))⟩,
  ⟨some 47, none, false, .mv (.t 46)⟩,
  ⟨some 48, some (47, false), false, .fad 1 (.t 7)⟩,
  ⟨some 49, some (47, false), false, .ldc (.t 48)⟩,
  ⟨some 50, some (47, false), false, .fad 4 (.t 2)⟩,
  ⟨some 51, some (47, false), false, .ldc (.t 50)⟩,
  ⟨some 52, some (47, false), false, .cmp .gtr (.t 49) (.t 51)⟩,
  ⟨some 53, none, false, .pick (.t 47) (.k (.bool true)) (.t 52)⟩] (some [2, 4, 6, 7, 53])
def ir64_9 : IC := .cond (.t 53) (.exit 1) .skip
def ir64_10 : IC := .seq ir64_r11 ir64_9
def ir64_r12 : IC := .reg [⟨some 54, none, false, .lda 8 (.t 2)⟩,
  ⟨some 55, none, false, .mv (.t 6)⟩,
  ⟨some 56, none, false, .fad 1 (.t 7)⟩,
  ⟨some 57, none, false, .ldc (.t 56)⟩,
  ⟨some 58, none, false, .call (.f 103) [(.t 54), (.t 55), (.t 57)]⟩] (some [2, 4, 6, 7])
def ir64_r13 : IC := .reg [⟨some 8, none, false, .mv (.k (.int .i64 0))⟩] (some [2, 4, 6, 7, 8])
def ir64_r14 : IC := .reg [⟨some 59, none, false, .mv (.t 8)⟩,
  ⟨some 60, none, false, .fad 2 (.t 7)⟩,
  ⟨some 61, none, false, .ldc (.t 60)⟩,
  ⟨some 62, none, false, .len (.t 61)⟩,
  ⟨some 63, none, false, .cmp .lss (.t 59) (.t 62)⟩] (some [2, 4, 6, 7, 8, 63])
def ir64_11 : IC := .cond (.t 63) .skip (.exit 2)
def ir64_12 : IC := .seq ir64_r14 ir64_11
def ir64_r16 : IC := .draw [(⟨some 66, none, false, .fad 5 (.t 2)⟩, false, 0, 0),
  (⟨some 67, none, false, .ldc (.t 66)⟩, false, 1, 1),
  (⟨some 68, none, false, .fad 2 (.t 7)⟩, false, 0, 0),
  (⟨some 69, none, false, .ldc (.t 68)⟩, false, 4, 2),
  (⟨some 70, none, false, .mv (.t 8)⟩, false, 0, 0),
  (⟨some 71, none, false, .iad 1 (.t 69) (.t 70)⟩, false, 28, 0),
  (⟨some 72, none, false, .ldc (.t 71)⟩, false, 60, 2),
  (⟨some 73, none, false, .ar .sub (.t 72) (.k (.int .i64 1))⟩, false, 124, 0),
  (⟨some 74, none, false, .iad 5 (.t 67) (.t 73)⟩, false, 255, 0),
  (⟨some 75, none, false, .fad 0 (.t 74)⟩, false, 511, 0),
  (⟨some 76, none, false, .ldc (.t 75)⟩, true, 1023, 1),
  (⟨some 77, none, false, .ar .add (.t 76) (.k (.int .i64 1))⟩, false, 2047, 0),
  (⟨some 78, none, false, .iad 5 (.t 67) (.t 73)⟩, false, 4095, 0),
  (⟨some 79, none, false, .fad 0 (.t 78)⟩, false, 8191, 0),
  (⟨none, none, false, .st 1 (.t 79) (.t 77)⟩, true, 16383, 1)] (some [2, 4, 6, 7, 8])
def ir64_13 : IC := .block 3 ir64_r16
def ir64_r15 : IC := .reg [⟨some 64, none, false, .mv (.t 8)⟩,
  ⟨some 65, none, false, .ar .add (.t 64) (.k (.int .i64 1))⟩,
  ⟨some 8, none, false, .mv (.t 65)⟩] (some [2, 4, 6, 7, 8])
def ir64_14 : IC := .seq ir64_13 ir64_r15
def ir64_15 : IC := .seq ir64_12 ir64_14
def ir64_16 : IC := .loop ir64_15
def ir64_17 : IC := .block 2 ir64_16
def ir64_18 : IC := .seq ir64_r13 ir64_17
def ir64_19 : IC := .seq ir64_r12 ir64_18
def ir64_20 : IC := .seq ir64_10 ir64_19
def ir64_21 : IC := .seq ir64_r10 ir64_20
def ir64_22 : IC := .block 1 ir64_21
def ir64_r9 : IC := .reg [⟨some 37, none, false, .mv (.t 6)⟩,
  ⟨some 38, none, false, .ar .add (.t 37) (.k (.int .i64 1))⟩,
  ⟨some 6, none, false, .mv (.t 38)⟩] (some [2, 4, 6])
def ir64_23 : IC := .seq ir64_22 ir64_r9
def ir64_24 : IC := .seq ir64_8 ir64_23
def ir64_25 : IC := .loop ir64_24
def ir64_26 : IC := .block 0 ir64_25
def ir64_27 : IC := .seq ir64_r7 ir64_26
def ir64_r17 : IC := .reg [⟨some 9, none, false, .mv (.k (.int .i64 0))⟩] (some [2, 4, 9])
def ir64_r18 : IC := .reg [⟨some 80, none, false, .mv (.t 9)⟩,
  ⟨some 81, none, false, .fad 5 (.t 2)⟩,
  ⟨some 82, none, false, .ldc (.t 81)⟩,
  ⟨some 83, none, false, .len (.t 82)⟩,
  ⟨some 84, none, false, .cmp .lss (.t 80) (.t 83)⟩] (some [2, 4, 9, 84])
def ir64_28 : IC := .cond (.t 84) .skip (.exit 4)
def ir64_29 : IC := .seq ir64_r18 ir64_28
def ir64_r20 : IC := .reg [⟨some 87, none, false, .fad 5 (.t 2)⟩,
  ⟨some 88, none, false, .ldc (.t 87)⟩,
  ⟨some 89, none, false, .mv (.t 9)⟩,
  ⟨some 90, none, false, .iad 5 (.t 88) (.t 89)⟩,
  ⟨some 91, none, false, .lda 5 (.t 90)⟩,
  ⟨some 10, none, false, .alloc [(.int .i64 0), (.int .i64 0), (.int .i64 0), (.int .u8 0), (.int .i64 0)]⟩,
  ⟨none, none, false, .st 5 (.t 10) (.t 91)⟩] (some [2, 4, 9, 10])
def ir64_r21 : IC := .draw [(⟨some 92, none, false, .fad 1 (.t 10)⟩, false, 0, 0),
  (⟨some 93, none, false, .ldc (.t 92)⟩, true, 1, 1),
  (⟨some 94, none, false, .cmp .lss (.t 93) (.k (.int .i64 0))⟩, false, 3, 0),
  (⟨some 95, none, false, .mv (.t 94)⟩, false, 7, 0),
  (⟨some 96, some (95, true), false, .fad 0 (.t 10)⟩, false, 15, 0),
  (⟨some 97, some (95, true), false, .ldc (.t 96)⟩, false, 31, 1),
  (⟨some 98, some (95, true), false, .fad 1 (.t 2)⟩, false, 15, 0),
  (⟨some 99, some (95, true), false, .fad 2 (.t 98)⟩, false, 79, 0),
  (⟨some 100, some (95, true), false, .ldc (.t 99)⟩, false, 207, 32),
  (⟨some 101, some (95, true), false, .len (.t 100)⟩, false, 463, 32),
  (⟨some 102, some (95, true), false, .cmp .lss (.t 97) (.t 101)⟩, false, 1023, 0),
  (⟨some 103, none, false, .pick (.t 95) (.t 102) (.k (.bool false))⟩, false, 2047, 0),
  (⟨some 104, none, false, .mv (.t 103)⟩, false, 4095, 0),
  (⟨some 105, some (104, true), false, .fad 4 (.t 2)⟩, false, 8191, 0),
  (⟨some 106, some (104, true), false, .ldc (.t 105)⟩, false, 16383, 1),
  (⟨some 107, some (104, true), false, .fad 2 (.t 10)⟩, false, 8191, 0),
  (⟨some 108, some (104, true), false, .ldc (.t 107)⟩, false, 40959, 16384),
  (⟨some 109, some (104, true), false, .ar .sub (.t 106) (.t 108)⟩, false, 131071, 0),
  (⟨some 110, some (104, true), false, .fad 1 (.t 2)⟩, false, 8191, 0),
  (⟨some 111, some (104, true), false, .fad 2 (.t 110)⟩, false, 270335, 0),
  (⟨some 112, some (104, true), false, .ldc (.t 111)⟩, false, 794623, 49152),
  (⟨some 113, some (104, true), false, .fad 0 (.t 10)⟩, false, 8191, 0),
  (⟨some 114, some (104, true), false, .ldc (.t 113)⟩, false, 2105343, 835584),
  (⟨some 115, some (104, true), false, .iad 2 (.t 112) (.t 114)⟩, false, 8134655, 0),
  (⟨some 116, some (104, true), false, .fad 1 (.t 115)⟩, false, 16523263, 0),
  (⟨some 117, some (104, true), false, .ldc (.t 116)⟩, false, 33300479, 49152),
  (⟨some 118, some (104, true), false, .cmp .gtr (.t 109) (.t 117)⟩, false, 67108863, 0),
  (⟨some 119, none, false, .pick (.t 104) (.t 118) (.k (.bool false))⟩, false, 134217727, 0)] (some [2, 4, 9, 119])
def ir64_r22 : IC := .reg [⟨some 120, none, false, .lda 8 (.t 2)⟩,
  ⟨some 121, none, false, .mv (.t 9)⟩,
  ⟨some 122, none, false, .ar .add (.t 121) (.k (.int .i64 1))⟩,
  ⟨some 123, none, false, .call (.f 104) [(.t 120), (.t 122), (.k (.int .u8 2))]⟩] (some [2, 4, 9])
def ir64_30 : IC := .cond (.t 119) ir64_r22 .skip
def ir64_31 : IC := .seq ir64_r21 ir64_30
def ir64_32 : IC := .seq ir64_r20 ir64_31
def ir64_33 : IC := .block 5 ir64_32
def ir64_r19 : IC := .reg [⟨some 85, none, false, .mv (.t 9)⟩,
  ⟨some 86, none, false, .ar .add (.t 85) (.k (.int .i64 1))⟩,
  ⟨some 9, none, false, .mv (.t 86)⟩] (some [2, 4, 9])
def ir64_34 : IC := .seq ir64_33 ir64_r19
def ir64_35 : IC := .seq ir64_29 ir64_34
def ir64_36 : IC := .loop ir64_35
def ir64_37 : IC := .block 4 ir64_36
def ir64_38 : IC := .seq ir64_r17 ir64_37
def ir64_r23 : IC := .reg [⟨some 124, none, false, .lda 8 (.t 2)⟩,
  ⟨none, none, false, .st 8 (.t 4) (.t 124)⟩,
  ⟨some 5, none, false, .mv (.k (.int .i64 0))⟩] (some [4, 5])
def ir64_39 : IC := .seq ir64_r23 .ret
def ir64_40 : IC := .seq ir64_38 ir64_39
def ir64_41 : IC := .seq ir64_27 ir64_40
def ir64_42 : IC := .seq ir64_r6 ir64_41
def ir64_43 : IC := .seq ir64_r5 ir64_42
def ir64_44 : IC := .seq ir64_6 ir64_43
def ir64_45 : IC := .seq ir64_3 ir64_44
def ir64_46 : IC := .seq ir64_r0 ir64_45
def ir64 : IC := ir64_46
theorem fn64 : FnIs Try.prog 64 ir64 125 [.cell 4 75, .tmp 5] := ⟨Try.f64, Try.f64.body.getD .skip, Try.func64, by kernel_rfl, by kernel_rfl, by kernel_rfl, by kernel_rfl⟩
/- (*boule/shop.Shop).Abort · slots 29 · names 0:s 1:number 2:s 3:number 5:t 6:e · results [4] -/
def ir65_r0 : IC := .reg [⟨some 4, none, false, .mv (.k (.int .i64 0))⟩] (some [0, 1])
def ir65_r1 : IC := .reg [⟨some 8, none, false, .mv (.t 0)⟩,
  ⟨some 9, none, false, .mv (.t 1)⟩,
  ⟨some 10, none, false, .call (.f 77) [(.t 8), (.t 9)]⟩,
  ⟨some 7, none, false, .mv (.t 10)⟩,
  ⟨some 11, none, false, .ext (.t 7) 0⟩,
  ⟨some 12, none, false, .ext (.t 7) 1⟩,
  ⟨some 5, none, false, .mv (.t 11)⟩,
  ⟨some 6, none, false, .mv (.t 12)⟩] (some [0, 5, 6])
def ir65_r2 : IC := .reg [⟨some 14, none, false, .mv (.t 6)⟩,
  ⟨some 15, none, false, .cmp .neq (.t 14) (.k (.int .i64 0))⟩,
  ⟨some 13, none, false, .mv (.t 15)⟩] (some [0, 5, 6, 13])
def ir65_r3 : IC := .reg [⟨some 16, none, false, .mv (.t 6)⟩,
  ⟨some 4, none, false, .mv (.t 16)⟩] (some [4])
def ir65_1 : IC := .seq ir65_r3 .ret
def ir65_r4 : IC := .reg [⟨some 18, none, false, .mv (.t 5)⟩,
  ⟨some 19, none, false, .nilck (.t 18)⟩,
  ⟨some 20, none, false, .fad 6 (.t 19)⟩,
  ⟨some 21, none, false, .ldc (.t 20)⟩,
  ⟨some 22, none, false, .gen (.binOp .eql 146 (.tmp 21) (.const (.pointer none)) 146)⟩,
  ⟨some 17, none, false, .mv (.t 22)⟩] (some [0, 5, 17])
def ir65_r5 : IC := .reg [⟨some 4, none, false, .mv (.k (.int .i64 9))⟩] (some [4])
def ir65_2 : IC := .seq ir65_r5 .ret
def ir65_3 : IC := .cond (.t 17) ir65_2 .skip
def ir65_4 : IC := .seq ir65_r4 ir65_3
def ir65_5 : IC := .cond (.t 13) ir65_1 ir65_4
def ir65_6 : IC := .seq ir65_r2 ir65_5
def ir65_7 : IC := .block 0 ir65_6
def ir65_r6 : IC := .reg [⟨some 23, none, false, .mv (.t 5)⟩,
  ⟨some 24, none, false, .mv (.t 0)⟩,
  ⟨some 25, none, false, .nilck (.t 24)⟩,
  ⟨some 26, none, false, .fad 4 (.t 25)⟩,
  ⟨some 27, none, false, .ldc (.t 26)⟩,
  ⟨some 28, none, false, .call (.f 91) [(.t 23), (.t 27), (.f 105)]⟩] (some [])
def ir65_r7 : IC := .reg [⟨some 4, none, false, .mv (.k (.int .i64 0))⟩] (some [4])
def ir65_8 : IC := .seq ir65_r7 .ret
def ir65_9 : IC := .seq ir65_r6 ir65_8
def ir65_10 : IC := .seq ir65_7 ir65_9
def ir65_11 : IC := .seq ir65_r1 ir65_10
def ir65_12 : IC := .seq ir65_r0 ir65_11
def ir65 : IC := ir65_12
theorem fn65 : FnIs Try.prog 65 ir65 29 [.tmp 4] := ⟨Try.f65, Try.f65.body.getD .skip, Try.func65, by kernel_rfl, by kernel_rfl, by kernel_rfl, by kernel_rfl⟩
/- boule/bouleref11.Abort · slots 50 · names 0:s 1:tool 2:s 3:tool 6:e 7:lots 8:i · results [4, 5] -/
def ir66_r0 : IC := .reg [⟨some 2, none, false, .box (.t 0)⟩,
  ⟨some 4, none, false, .alloc [(.bool false), (.slice none 0 0), (.slice none 0 0), (.slice none 0 0), (.int .i64 0), (.slice none 0 0), (.slice none 0 0), (.slice none 0 0)]⟩,
  ⟨some 5, none, false, .mv (.k (.int .i64 0))⟩] (some [1, 2, 4])
def ir66_r1 : IC := .reg [⟨some 9, none, false, .lda 8 (.t 2)⟩,
  ⟨some 10, none, false, .mv (.t 1)⟩,
  ⟨some 11, none, false, .call (.f 101) [(.t 9), (.t 10)]⟩,
  ⟨some 6, none, false, .mv (.t 11)⟩] (some [1, 2, 4, 6])
def ir66_r2 : IC := .reg [⟨some 12, none, false, .mv (.t 6)⟩,
  ⟨some 13, none, false, .cmp .neq (.t 12) (.k (.int .i64 0))⟩] (some [1, 2, 4, 6, 13])
def ir66_r3 : IC := .reg [⟨some 14, none, false, .lda 8 (.t 2)⟩,
  ⟨some 15, none, false, .mv (.t 6)⟩,
  ⟨none, none, false, .st 8 (.t 4) (.t 14)⟩,
  ⟨some 5, none, false, .mv (.t 15)⟩] (some [4, 5])
def ir66_1 : IC := .seq ir66_r3 .ret
def ir66_2 : IC := .cond (.t 13) ir66_1 .skip
def ir66_3 : IC := .seq ir66_r2 ir66_2
def ir66_4 : IC := .seq ir66_r1 ir66_3
def ir66_r4 : IC := .reg [⟨some 16, none, false, .fad 6 (.t 2)⟩,
  ⟨some 17, none, false, .ldc (.t 16)⟩,
  ⟨some 18, none, false, .mv (.t 1)⟩,
  ⟨some 19, none, false, .iad 7 (.t 17) (.t 18)⟩,
  ⟨some 20, none, false, .fad 0 (.t 19)⟩,
  ⟨some 21, none, false, .ldc (.t 20)⟩,
  ⟨some 22, none, false, .cmp .lss (.t 21) (.k (.int .i64 0))⟩] (some [1, 2, 4, 22])
def ir66_r5 : IC := .reg [⟨some 23, none, false, .lda 8 (.t 2)⟩,
  ⟨none, none, false, .st 8 (.t 4) (.t 23)⟩,
  ⟨some 5, none, false, .mv (.k (.int .i64 9))⟩] (some [4, 5])
def ir66_5 : IC := .seq ir66_r5 .ret
def ir66_6 : IC := .cond (.t 22) ir66_5 .skip
def ir66_7 : IC := .seq ir66_r4 ir66_6
def ir66_r6 : IC := .reg [⟨some 24, none, false, .lda 8 (.t 2)⟩,
  ⟨some 25, none, false, .call (.f 100) [(.t 24)]⟩,
  ⟨none, none, false, .st 8 (.t 2) (.t 25)⟩] (some [1, 2, 4])
def ir66_r7 : IC := .reg [⟨some 26, none, false, .fad 6 (.t 2)⟩,
  ⟨some 27, none, false, .ldc (.t 26)⟩,
  ⟨some 28, none, false, .mv (.t 1)⟩,
  ⟨some 29, none, false, .iad 7 (.t 27) (.t 28)⟩,
  ⟨some 30, none, false, .fad 2 (.t 29)⟩,
  ⟨some 31, none, false, .ldc (.t 30)⟩,
  ⟨some 7, none, false, .mv (.t 31)⟩] (some [1, 2, 4, 7])
def ir66_r8 : IC := .reg [⟨some 32, none, false, .lda 8 (.t 2)⟩,
  ⟨some 33, none, false, .mv (.t 1)⟩,
  ⟨some 34, none, false, .fad 4 (.t 2)⟩,
  ⟨some 35, none, false, .ldc (.t 34)⟩,
  ⟨some 36, none, false, .call (.f 103) [(.t 32), (.t 33), (.t 35)]⟩] (some [2, 4, 7])
def ir66_r9 : IC := .reg [⟨some 8, none, false, .mv (.k (.int .i64 0))⟩] (some [2, 4, 7, 8])
def ir66_r10 : IC := .reg [⟨some 37, none, false, .mv (.t 8)⟩,
  ⟨some 38, none, false, .mv (.t 7)⟩,
  ⟨some 39, none, false, .len (.t 38)⟩,
  ⟨some 40, none, false, .cmp .lss (.t 37) (.t 39)⟩] (some [2, 4, 7, 8, 40])
def ir66_8 : IC := .cond (.t 40) .skip (.exit 0)
def ir66_9 : IC := .seq ir66_r10 ir66_8
def ir66_r12 : IC := .draw [(⟨some 43, none, false, .lda 8 (.t 2)⟩, false, 0, 1),
  (⟨some 44, none, false, .mv (.t 7)⟩, false, 0, 0),
  (⟨some 45, none, false, .mv (.t 8)⟩, false, 0, 0),
  (⟨some 46, none, false, .iad 1 (.t 44) (.t 45)⟩, false, 6, 0),
  (⟨some 47, none, false, .ldc (.t 46)⟩, false, 14, 1),
  (⟨some 48, none, false, .call (.f 104) [(.t 43), (.t 47), (.k (.int .u8 4))]⟩, true, 31, 1)] (some [2, 4, 7, 8])
def ir66_10 : IC := .block 1 ir66_r12
def ir66_r11 : IC := .reg [⟨some 41, none, false, .mv (.t 8)⟩,
  ⟨some 42, none, false, .ar .add (.t 41) (.k (.int .i64 1))⟩,
  ⟨some 8, none, false, .mv (.t 42)⟩] (some [2, 4, 7, 8])
def ir66_11 : IC := .seq ir66_10 ir66_r11
def ir66_12 : IC := .seq ir66_9 ir66_11
def ir66_13 : IC := .loop ir66_12
def ir66_14 : IC := .block 0 ir66_13
def ir66_15 : IC := .seq ir66_r9 ir66_14
def ir66_r13 : IC := .reg [⟨some 49, none, false, .lda 8 (.t 2)⟩,
  ⟨none, none, false, .st 8 (.t 4) (.t 49)⟩,
  ⟨some 5, none, false, .mv (.k (.int .i64 0))⟩] (some [4, 5])
def ir66_16 : IC := .seq ir66_r13 .ret
def ir66_17 : IC := .seq ir66_15 ir66_16
def ir66_18 : IC := .seq ir66_r8 ir66_17
def ir66_19 : IC := .seq ir66_r7 ir66_18
def ir66_20 : IC := .seq ir66_r6 ir66_19
def ir66_21 : IC := .seq ir66_7 ir66_20
def ir66_22 : IC := .seq ir66_4 ir66_21
def ir66_23 : IC := .seq ir66_r0 ir66_22
def ir66 : IC := ir66_23
theorem fn66 : FnIs Try.prog 66 ir66 50 [.cell 4 75, .tmp 5] := ⟨Try.f66, Try.f66.body.getD .skip, Try.func66, by kernel_rfl, by kernel_rfl, by kernel_rfl, by kernel_rfl⟩
/- boule/bouleref11.Measure · slots 98 · names 0:s 1:tool 2:value 3:s 4:tool 5:value 9:e 10:t 11:spoke 12:i · results [6, 7, 8] -/
def ir67_r0 : IC := .reg [⟨some 3, none, false, .box (.t 0)⟩,
  ⟨some 6, none, false, .alloc [(.bool false), (.slice none 0 0), (.slice none 0 0), (.slice none 0 0), (.int .i64 0), (.slice none 0 0), (.slice none 0 0), (.slice none 0 0)]⟩,
  ⟨some 7, none, false, .mv (.k (.bool false))⟩,
  ⟨some 8, none, false, .mv (.k (.int .i64 0))⟩] (some [1, 2, 3, 6])
def ir67_r1 : IC := .reg [⟨some 13, none, false, .lda 8 (.t 3)⟩,
  ⟨some 14, none, false, .mv (.t 1)⟩,
  ⟨some 15, none, false, .call (.f 101) [(.t 13), (.t 14)]⟩,
  ⟨some 9, none, false, .mv (.t 15)⟩] (some [1, 2, 3, 6, 9])
def ir67_r2 : IC := .reg [⟨some 16, none, false, .mv (.t 9)⟩,
  ⟨some 17, none, false, .cmp .neq (.t 16) (.k (.int .i64 0))⟩] (some [1, 2, 3, 6, 9, 17])
def ir67_r3 : IC := .reg [⟨some 18, none, false, .lda 8 (.t 3)⟩,
  ⟨some 19, none, false, .mv (.t 9)⟩,
  ⟨none, none, false, .st 8 (.t 6) (.t 18)⟩,
  ⟨some 7, none, false, .mv (.k (.bool false))⟩,
  ⟨some 8, none, false, .mv (.t 19)⟩] (some [6, 7, 8])
def ir67_1 : IC := .seq ir67_r3 .ret
def ir67_2 : IC := .cond (.t 17) ir67_1 .skip
def ir67_3 : IC := .seq ir67_r2 ir67_2
def ir67_4 : IC := .seq ir67_r1 ir67_3
def ir67_r4 : IC := .reg [⟨some 20, none, false, .mv (.t 2)⟩,
  ⟨some 21, none, false, .call (.f 48) [(.t 20), (.k (.int .i64 (-1000000))), (.k (.int .i64 1000000))]⟩,
  ⟨some 22, none, false, .not (.t 21)⟩] (some [1, 2, 3, 6, 22])
def ir67_r5 : IC := .reg [⟨some 23, none, false, .lda 8 (.t 3)⟩,
  ⟨none, none, false, .st 8 (.t 6) (.t 23)⟩,
  ⟨some 7, none, false, .mv (.k (.bool false))⟩,
  ⟨some 8, none, false, .mv (.k (.int .i64 3))⟩] (some [6, 7, 8])
def ir67_5 : IC := .seq ir67_r5 .ret
def ir67_6 : IC := .cond (.t 22) ir67_5 .skip
def ir67_7 : IC := .seq ir67_r4 ir67_6
def ir67_r6 : IC := .reg [⟨some 24, none, false, .fad 6 (.t 3)⟩,
  ⟨some 25, none, false, .ldc (.t 24)⟩,
  ⟨some 26, none, false, .mv (.t 1)⟩,
  ⟨some 27, none, false, .iad 7 (.t 25) (.t 26)⟩,
  ⟨some 28, none, false, .fad 6 (.t 27)⟩,
  ⟨some 29, none, false, .ldc (.t 28)⟩,
  ⟨some 30, none, false, .len (.t 29)⟩,
  ⟨some 31, none, false, .cmp .geq (.t 30) (.k (.int .i64 200))⟩] (some [1, 2, 3, 6, 31])
def ir67_r7 : IC := .reg [⟨some 32, none, false, .lda 8 (.t 3)⟩,
  ⟨none, none, false, .st 8 (.t 6) (.t 32)⟩,
  ⟨some 7, none, false, .mv (.k (.bool false))⟩,
  ⟨some 8, none, false, .mv (.k (.int .i64 8))⟩] (some [6, 7, 8])
def ir67_8 : IC := .seq ir67_r7 .ret
def ir67_9 : IC := .cond (.t 31) ir67_8 .skip
def ir67_10 : IC := .seq ir67_r6 ir67_9
def ir67_r8 : IC := .reg [⟨some 33, none, false, .lda 8 (.t 3)⟩,
  ⟨some 34, none, false, .call (.f 100) [(.t 33)]⟩,
  ⟨none, none, false, .st 8 (.t 3) (.t 34)⟩] (some [1, 2, 3, 6])
def ir67_r9 : IC := .reg [⟨some 35, none, false, .fad 6 (.t 3)⟩,
  ⟨some 36, none, false, .ldc (.t 35)⟩,
  ⟨some 37, none, false, .mv (.t 1)⟩,
  ⟨some 38, none, false, .iad 7 (.t 36) (.t 37)⟩,
  ⟨some 39, none, false, .lda 7 (.t 38)⟩,
  ⟨some 10, none, false, .alloc [(.int .i64 0), (.int .i64 0), (.slice none 0 0), (.int .i64 0), (.bool false), (.int .i64 0), (.slice none 0 0)]⟩,
  ⟨none, none, false, .st 7 (.t 10) (.t 39)⟩] (some [1, 2, 3, 6, 10])
def ir67_r10 : IC := .reg [⟨some 40, none, false, .bsl 1 0 [] []⟩,
  ⟨some 41, none, false, .fad 6 (.t 10)⟩,
  ⟨some 42, none, false, .ldc (.t 41)⟩,
  ⟨some 43, none, false, .app 1 8 (.t 40) (.t 42)⟩,
  ⟨some 44, none, false, .mv (.t 2)⟩,
  ⟨some 45, none, false, .bsl 1 1 [(.int .i64 0)] [(0, (.t 44))]⟩,
  ⟨some 46, none, false, .app 1 8 (.t 43) (.t 45)⟩,
  ⟨some 47, none, false, .fad 6 (.t 10)⟩,
  ⟨none, none, false, .st 1 (.t 47) (.t 46)⟩] (some [1, 3, 6, 10])
def ir67_r11 : IC := .draw [(⟨some 48, none, false, .fad 1 (.t 3)⟩, false, 0, 0),
  (⟨some 49, none, false, .fad 0 (.t 48)⟩, false, 1, 0),
  (⟨some 50, none, false, .ldc (.t 49)⟩, false, 3, 1),
  (⟨some 51, none, false, .mv (.t 1)⟩, false, 0, 0),
  (⟨some 52, none, false, .iad 5 (.t 50) (.t 51)⟩, false, 15, 0),
  (⟨some 53, none, false, .fad 3 (.t 52)⟩, false, 31, 0),
  (⟨some 54, none, false, .lda 2 (.t 53)⟩, false, 63, 1),
  (⟨some 55, none, false, .fad 6 (.t 10)⟩, false, 0, 0),
  (⟨some 56, none, false, .ldc (.t 55)⟩, false, 128, 64),
  (⟨some 57, none, false, .call (.f 49) [(.t 54), (.t 56)]⟩, true, 511, 1),
  (⟨some 58, none, false, .len (.t 57)⟩, true, 1023, 1),
  (⟨some 59, none, false, .cmp .gtr (.t 58) (.k (.int .i64 0))⟩, false, 2047, 0),
  (⟨some 11, none, false, .mv (.t 59)⟩, false, 4095, 0)] (some [1, 3, 6, 10, 11])
def ir67_r12 : IC := .reg [⟨some 60, none, false, .mv (.t 11)⟩] (some [1, 3, 6, 10, 11, 60])
def ir67_r13 : IC := .reg [⟨some 61, none, false, .fad 4 (.t 10)⟩,
  ⟨none, none, false, .st 1 (.t 61) (.k (.bool true))⟩,
  ⟨some 62, none, false, .fad 5 (.t 10)⟩,
  ⟨none, none, false, .st 1 (.t 62) (.k (.int .i64 0))⟩] (some [1, 3, 6, 10, 11])
def ir67_r14 : IC := .reg [⟨some 12, none, false, .mv (.k (.int .i64 0))⟩] (some [1, 3, 6, 10, 11, 12])
def ir67_r15 : IC := .reg [⟨some 63, none, false, .mv (.t 12)⟩,
  ⟨some 64, none, false, .fad 7 (.t 3)⟩,
  ⟨some 65, none, false, .ldc (.t 64)⟩,
  ⟨some 66, none, false, .mv (.t 1)⟩,
  ⟨some 67, none, false, .iad 1 (.t 65) (.t 66)⟩,
  ⟨some 68, none, false, .ldc (.t 67)⟩,
  ⟨some 69, none, false, .len (.t 68)⟩,
  ⟨some 70, none, false, .cmp .lss (.t 63) (.t 69)⟩] (some [1, 3, 6, 10, 11, 12, 70])
def ir67_11 : IC := .cond (.t 70) .skip (.exit 0)
def ir67_12 : IC := .seq ir67_r15 ir67_11
def ir67_r17 : IC := .draw [(⟨some 73, none, false, .lda 8 (.t 3)⟩, false, 0, 1),
  (⟨some 74, none, false, .fad 7 (.t 3)⟩, false, 0, 0),
  (⟨some 75, none, false, .ldc (.t 74)⟩, false, 2, 1),
  (⟨some 76, none, false, .mv (.t 1)⟩, false, 0, 0),
  (⟨some 77, none, false, .iad 1 (.t 75) (.t 76)⟩, false, 14, 0),
  (⟨some 78, none, false, .ldc (.t 77)⟩, false, 30, 1),
  (⟨some 79, none, false, .mv (.t 12)⟩, false, 0, 0),
  (⟨some 80, none, false, .iad 1 (.t 78) (.t 79)⟩, false, 126, 0),
  (⟨some 81, none, false, .ldc (.t 80)⟩, false, 254, 1),
  (⟨some 82, none, false, .call (.f 104) [(.t 73), (.t 81), (.k (.int .u8 8))]⟩, true, 511, 1)] (some [1, 3, 6, 10, 11, 12])
def ir67_13 : IC := .block 1 ir67_r17
def ir67_r16 : IC := .reg [⟨some 71, none, false, .mv (.t 12)⟩,
  ⟨some 72, none, false, .ar .add (.t 71) (.k (.int .i64 1))⟩,
  ⟨some 12, none, false, .mv (.t 72)⟩] (some [1, 3, 6, 10, 11, 12])
def ir67_14 : IC := .seq ir67_13 ir67_r16
def ir67_15 : IC := .seq ir67_12 ir67_14
def ir67_16 : IC := .loop ir67_15
def ir67_17 : IC := .block 0 ir67_16
def ir67_18 : IC := .seq ir67_r14 ir67_17
def ir67_19 : IC := .seq ir67_r13 ir67_18
def ir67_r18 : IC := .draw [(⟨some 83, none, false, .fad 7 (.t 3)⟩, false, 0, 0),
  (⟨some 84, none, false, .ldc (.t 83)⟩, false, 1, 1),
  (⟨some 85, none, false, .mv (.t 1)⟩, false, 0, 0),
  (⟨some 86, none, false, .bsl 1 0 [] []⟩, false, 0, 2),
  (⟨some 87, none, false, .fad 2 (.t 10)⟩, false, 0, 0),
  (⟨some 88, none, false, .ldc (.t 87)⟩, false, 16, 2),
  (⟨some 89, none, false, .app 1 8 (.t 86) (.t 88)⟩, false, 56, 2),
  (⟨some 90, none, false, .iad 1 (.t 84) (.t 85)⟩, false, 127, 0),
  (⟨none, none, false, .st 1 (.t 90) (.t 89)⟩, true, 255, 1)] (some [1, 3, 6, 10, 11])
def ir67_20 : IC := .cond (.t 60) ir67_19 ir67_r18
def ir67_21 : IC := .seq ir67_r12 ir67_20
def ir67_r19 : IC := .reg [⟨some 91, none, false, .fad 6 (.t 3)⟩,
  ⟨some 92, none, false, .ldc (.t 91)⟩,
  ⟨some 93, none, false, .mv (.t 1)⟩,
  ⟨some 94, none, false, .lda 7 (.t 10)⟩,
  ⟨some 95, none, false, .iad 7 (.t 92) (.t 93)⟩,
  ⟨none, none, false, .st 7 (.t 95) (.t 94)⟩] (some [3, 6, 11])
def ir67_r20 : IC := .reg [⟨some 96, none, false, .lda 8 (.t 3)⟩,
  ⟨some 97, none, false, .mv (.t 11)⟩,
  ⟨none, none, false, .st 8 (.t 6) (.t 96)⟩,
  ⟨some 7, none, false, .mv (.t 97)⟩,
  ⟨some 8, none, false, .mv (.k (.int .i64 0))⟩] (some [6, 7, 8])
def ir67_22 : IC := .seq ir67_r20 .ret
def ir67_23 : IC := .seq ir67_r19 ir67_22
def ir67_24 : IC := .seq ir67_21 ir67_23
def ir67_25 : IC := .seq ir67_r11 ir67_24
def ir67_26 : IC := .seq ir67_r10 ir67_25
def ir67_27 : IC := .seq ir67_r9 ir67_26
def ir67_28 : IC := .seq ir67_r8 ir67_27
def ir67_29 : IC := .seq ir67_10 ir67_28
def ir67_30 : IC := .seq ir67_7 ir67_29
def ir67_31 : IC := .seq ir67_4 ir67_30
def ir67_32 : IC := .seq ir67_r0 ir67_31
def ir67 : IC := ir67_32
theorem fn67 : FnIs Try.prog 67 ir67 98 [.cell 6 75, .tmp 7, .tmp 8] := ⟨Try.f67, Try.f67.body.getD .skip, Try.func67, by kernel_rfl, by kernel_rfl, by kernel_rfl, by kernel_rfl⟩
/- (*boule/shop.Shop).Hold · slots 32 · names 0:s 1:number 2:person 3:s 4:number 5:person 7:l 8:e · results [6] -/
def ir68_r0 : IC := .reg [⟨some 6, none, false, .mv (.k (.int .i64 0))⟩] (some [0, 1, 2])
def ir68_r1 : IC := .reg [⟨some 10, none, false, .mv (.t 0)⟩,
  ⟨some 11, none, false, .mv (.t 1)⟩,
  ⟨some 12, none, false, .call (.f 76) [(.t 10), (.t 11)]⟩,
  ⟨some 9, none, false, .mv (.t 12)⟩,
  ⟨some 13, none, false, .ext (.t 9) 0⟩,
  ⟨some 14, none, false, .ext (.t 9) 1⟩,
  ⟨some 7, none, false, .mv (.t 13)⟩,
  ⟨some 8, none, false, .mv (.t 14)⟩] (some [2, 7, 8])
def ir68_r2 : IC := .reg [⟨some 16, none, false, .mv (.t 8)⟩,
  ⟨some 17, none, false, .cmp .neq (.t 16) (.k (.int .i64 0))⟩,
  ⟨some 15, none, false, .mv (.t 17)⟩] (some [2, 7, 8, 15])
def ir68_r3 : IC := .reg [⟨some 18, none, false, .mv (.t 8)⟩,
  ⟨some 6, none, false, .mv (.t 18)⟩] (some [6])
def ir68_1 : IC := .seq ir68_r3 .ret
def ir68_r4 : IC := .reg [⟨some 20, none, false, .mv (.t 2)⟩,
  ⟨some 21, none, false, .call (.f 106) [(.t 20)]⟩,
  ⟨some 22, none, false, .not (.t 21)⟩,
  ⟨some 19, none, false, .mv (.t 22)⟩] (some [7, 19])
def ir68_r5 : IC := .reg [⟨some 6, none, false, .mv (.k (.int .i64 3))⟩] (some [6])
def ir68_2 : IC := .seq ir68_r5 .ret
def ir68_r6 : IC := .reg [⟨some 24, none, false, .mv (.t 7)⟩,
  ⟨some 25, none, false, .nilck (.t 24)⟩,
  ⟨some 26, none, false, .fad 3 (.t 25)⟩,
  ⟨some 27, none, false, .ldc (.t 26)⟩,
  ⟨some 28, none, false, .bits .and (.t 27) (.k (.int .u8 1))⟩,
  ⟨some 29, none, false, .cmp .neq (.t 28) (.k (.int .u8 0))⟩,
  ⟨some 23, none, false, .mv (.t 29)⟩] (some [7, 23])
def ir68_r7 : IC := .reg [⟨some 6, none, false, .mv (.k (.int .i64 9))⟩] (some [6])
def ir68_3 : IC := .seq ir68_r7 .ret
def ir68_4 : IC := .cond (.t 23) ir68_3 .skip
def ir68_5 : IC := .seq ir68_r6 ir68_4
def ir68_6 : IC := .cond (.t 19) ir68_2 ir68_5
def ir68_7 : IC := .seq ir68_r4 ir68_6
def ir68_8 : IC := .cond (.t 15) ir68_1 ir68_7
def ir68_9 : IC := .seq ir68_r2 ir68_8
def ir68_10 : IC := .block 0 ir68_9
def ir68_r8 : IC := .reg [⟨some 30, none, false, .mv (.t 7)⟩,
  ⟨some 31, none, false, .call (.f 94) [(.t 30), (.k (.int .u8 1))]⟩] (some [])
def ir68_r9 : IC := .reg [⟨some 6, none, false, .mv (.k (.int .i64 0))⟩] (some [6])
def ir68_11 : IC := .seq ir68_r9 .ret
def ir68_12 : IC := .seq ir68_r8 ir68_11
def ir68_13 : IC := .seq ir68_10 ir68_12
def ir68_14 : IC := .seq ir68_r1 ir68_13
def ir68_15 : IC := .seq ir68_r0 ir68_14
def ir68 : IC := ir68_15
theorem fn68 : FnIs Try.prog 68 ir68 32 [.tmp 6] := ⟨Try.f68, Try.f68.body.getD .skip, Try.func68, by kernel_rfl, by kernel_rfl, by kernel_rfl, by kernel_rfl⟩
/- boule/bouleref11.Hold · slots 36 · names 0:s 1:lot 2:person 3:s 4:lot 5:person 8:e · results [6, 7] -/
def ir69_r0 : IC := .reg [⟨some 3, none, false, .box (.t 0)⟩,
  ⟨some 6, none, false, .alloc [(.bool false), (.slice none 0 0), (.slice none 0 0), (.slice none 0 0), (.int .i64 0), (.slice none 0 0), (.slice none 0 0), (.slice none 0 0)]⟩,
  ⟨some 7, none, false, .mv (.k (.int .i64 0))⟩] (some [1, 2, 3, 6])
def ir69_r1 : IC := .reg [⟨some 9, none, false, .lda 8 (.t 3)⟩,
  ⟨some 10, none, false, .mv (.t 1)⟩,
  ⟨some 11, none, false, .call (.f 102) [(.t 9), (.t 10)]⟩,
  ⟨some 8, none, false, .mv (.t 11)⟩] (some [1, 2, 3, 6, 8])
def ir69_r2 : IC := .reg [⟨some 12, none, false, .mv (.t 8)⟩,
  ⟨some 13, none, false, .cmp .neq (.t 12) (.k (.int .i64 0))⟩] (some [1, 2, 3, 6, 8, 13])
def ir69_r3 : IC := .reg [⟨some 14, none, false, .lda 8 (.t 3)⟩,
  ⟨some 15, none, false, .mv (.t 8)⟩,
  ⟨none, none, false, .st 8 (.t 6) (.t 14)⟩,
  ⟨some 7, none, false, .mv (.t 15)⟩] (some [6, 7])
def ir69_1 : IC := .seq ir69_r3 .ret
def ir69_2 : IC := .cond (.t 13) ir69_1 .skip
def ir69_3 : IC := .seq ir69_r2 ir69_2
def ir69_4 : IC := .seq ir69_r1 ir69_3
def ir69_r4 : IC := .reg [⟨some 16, none, false, .mv (.t 2)⟩,
  ⟨some 17, none, false, .call (.f 48) [(.t 16), (.k (.int .i64 1)), (.k (.int .i64 99))]⟩,
  ⟨some 18, none, false, .not (.t 17)⟩] (some [1, 3, 6, 18])
def ir69_r5 : IC := .reg [⟨some 19, none, false, .lda 8 (.t 3)⟩,
  ⟨none, none, false, .st 8 (.t 6) (.t 19)⟩,
  ⟨some 7, none, false, .mv (.k (.int .i64 3))⟩] (some [6, 7])
def ir69_5 : IC := .seq ir69_r5 .ret
def ir69_6 : IC := .cond (.t 18) ir69_5 .skip
def ir69_7 : IC := .seq ir69_r4 ir69_6
def ir69_r6 : IC := .reg [⟨some 20, none, false, .fad 5 (.t 3)⟩,
  ⟨some 21, none, false, .ldc (.t 20)⟩,
  ⟨some 22, none, false, .mv (.t 1)⟩,
  ⟨some 23, none, false, .ar .sub (.t 22) (.k (.int .i64 1))⟩,
  ⟨some 24, none, false, .iad 5 (.t 21) (.t 23)⟩,
  ⟨some 25, none, false, .fad 3 (.t 24)⟩,
  ⟨some 26, none, false, .ldc (.t 25)⟩,
  ⟨some 27, none, false, .bits .and (.t 26) (.k (.int .u8 1))⟩,
  ⟨some 28, none, false, .cmp .neq (.t 27) (.k (.int .u8 0))⟩] (some [1, 3, 6, 28])
def ir69_r7 : IC := .reg [⟨some 29, none, false, .lda 8 (.t 3)⟩,
  ⟨none, none, false, .st 8 (.t 6) (.t 29)⟩,
  ⟨some 7, none, false, .mv (.k (.int .i64 9))⟩] (some [6, 7])
def ir69_8 : IC := .seq ir69_r7 .ret
def ir69_9 : IC := .cond (.t 28) ir69_8 .skip
def ir69_10 : IC := .seq ir69_r6 ir69_9
def ir69_r8 : IC := .reg [⟨some 30, none, false, .lda 8 (.t 3)⟩,
  ⟨some 31, none, false, .call (.f 100) [(.t 30)]⟩,
  ⟨none, none, false, .st 8 (.t 3) (.t 31)⟩] (some [1, 3, 6])
def ir69_r9 : IC := .reg [⟨some 32, none, false, .lda 8 (.t 3)⟩,
  ⟨some 33, none, false, .mv (.t 1)⟩,
  ⟨some 34, none, false, .call (.f 104) [(.t 32), (.t 33), (.k (.int .u8 1))]⟩] (some [3, 6])
def ir69_r10 : IC := .reg [⟨some 35, none, false, .lda 8 (.t 3)⟩,
  ⟨none, none, false, .st 8 (.t 6) (.t 35)⟩,
  ⟨some 7, none, false, .mv (.k (.int .i64 0))⟩] (some [6, 7])
def ir69_11 : IC := .seq ir69_r10 .ret
def ir69_12 : IC := .seq ir69_r9 ir69_11
def ir69_13 : IC := .seq ir69_r8 ir69_12
def ir69_14 : IC := .seq ir69_10 ir69_13
def ir69_15 : IC := .seq ir69_7 ir69_14
def ir69_16 : IC := .seq ir69_4 ir69_15
def ir69_17 : IC := .seq ir69_r0 ir69_16
def ir69 : IC := ir69_17
theorem fn69 : FnIs Try.prog 69 ir69 36 [.cell 6 75, .tmp 7] := ⟨Try.f69, Try.f69.body.getD .skip, Try.func69, by kernel_rfl, by kernel_rfl, by kernel_rfl, by kernel_rfl⟩
/- (*boule/shop.Shop).Sign · slots 57 · names 0:s 1:number 2:person 3:s 4:number 5:person 8:l 9:e 10:free · results [6, 7] -/
def ir70_r0 : IC := .reg [⟨some 6, none, false, .mv (.k (.bool false))⟩,
  ⟨some 7, none, false, .mv (.k (.int .i64 0))⟩] (some [0, 1, 2])
def ir70_r1 : IC := .reg [⟨some 12, none, false, .mv (.t 0)⟩,
  ⟨some 13, none, false, .mv (.t 1)⟩,
  ⟨some 14, none, false, .call (.f 76) [(.t 12), (.t 13)]⟩,
  ⟨some 11, none, false, .mv (.t 14)⟩,
  ⟨some 15, none, false, .ext (.t 11) 0⟩,
  ⟨some 16, none, false, .ext (.t 11) 1⟩,
  ⟨some 8, none, false, .mv (.t 15)⟩,
  ⟨some 9, none, false, .mv (.t 16)⟩] (some [0, 2, 8, 9])
def ir70_r2 : IC := .reg [⟨some 18, none, false, .mv (.t 9)⟩,
  ⟨some 19, none, false, .cmp .neq (.t 18) (.k (.int .i64 0))⟩,
  ⟨some 17, none, false, .mv (.t 19)⟩] (some [0, 2, 8, 9, 17])
def ir70_r3 : IC := .reg [⟨some 20, none, false, .mv (.t 9)⟩,
  ⟨some 6, none, false, .mv (.k (.bool false))⟩,
  ⟨some 7, none, false, .mv (.t 20)⟩] (some [6, 7])
def ir70_1 : IC := .seq ir70_r3 .ret
def ir70_r4 : IC := .reg [⟨some 22, none, false, .mv (.t 2)⟩,
  ⟨some 23, none, false, .call (.f 106) [(.t 22)]⟩,
  ⟨some 24, none, false, .not (.t 23)⟩,
  ⟨some 21, none, false, .mv (.t 24)⟩] (some [0, 2, 8, 21])
def ir70_r5 : IC := .reg [⟨some 6, none, false, .mv (.k (.bool false))⟩,
  ⟨some 7, none, false, .mv (.k (.int .i64 3))⟩] (some [6, 7])
def ir70_2 : IC := .seq ir70_r5 .ret
def ir70_r6 : IC := .reg [⟨some 26, none, false, .mv (.t 8)⟩,
  ⟨some 27, none, false, .nilck (.t 26)⟩,
  ⟨some 28, none, false, .fad 3 (.t 27)⟩,
  ⟨some 29, none, false, .ldc (.t 28)⟩,
  ⟨some 30, none, false, .cmp .eql (.t 29) (.k (.int .u8 0))⟩,
  ⟨some 25, none, false, .mv (.t 30)⟩] (some [0, 2, 8, 25])
def ir70_r7 : IC := .reg [⟨some 6, none, false, .mv (.k (.bool false))⟩,
  ⟨some 7, none, false, .mv (.k (.int .i64 9))⟩] (some [6, 7])
def ir70_3 : IC := .seq ir70_r7 .ret
def ir70_4 : IC := .cond (.t 25) ir70_3 .skip
def ir70_5 : IC := .seq ir70_r6 ir70_4
def ir70_6 : IC := .cond (.t 21) ir70_2 ir70_5
def ir70_7 : IC := .seq ir70_r4 ir70_6
def ir70_8 : IC := .cond (.t 17) ir70_1 ir70_7
def ir70_9 : IC := .seq ir70_r2 ir70_8
def ir70_10 : IC := .block 0 ir70_9
def ir70_r8 : IC := .reg [⟨some 32, none, false, .mv (.t 8)⟩,
  ⟨some 33, none, false, .nilck (.t 32)⟩,
  ⟨some 34, none, false, .fad 4 (.t 33)⟩,
  ⟨some 35, none, false, .mv (.t 2)⟩,
  ⟨some 36, none, false, .call (.f 107) [(.t 34), (.t 35)]⟩,
  ⟨some 31, none, false, .mv (.t 36)⟩,
  ⟨some 37, none, false, .ext (.t 31) 0⟩,
  ⟨some 38, none, false, .ext (.t 31) 1⟩,
  ⟨some 10, none, false, .mv (.t 37)⟩,
  ⟨some 9, none, false, .mv (.t 38)⟩] (some [0, 8, 9, 10])
def ir70_r9 : IC := .reg [⟨some 39, none, false, .mv (.t 10)⟩] (some [0, 8, 9, 10, 39])
def ir70_r10 : IC := .reg [⟨some 40, none, false, .mv (.t 8)⟩,
  ⟨some 41, none, false, .nilck (.t 40)⟩,
  ⟨some 42, none, false, .fad 3 (.t 41)⟩,
  ⟨none, none, false, .st 1 (.t 42) (.k (.int .u8 0))⟩] (some [0, 8, 9, 10])
def ir70_r11 : IC := .reg [⟨some 43, none, false, .mv (.t 8)⟩,
  ⟨some 44, none, false, .nilck (.t 43)⟩,
  ⟨some 45, none, false, .fad 1 (.t 44)⟩,
  ⟨some 46, none, false, .ldc (.t 45)⟩,
  ⟨some 47, none, false, .gen (.binOp .eql 140 (.tmp 46) (.const (.pointer none)) 140)⟩] (some [0, 8, 9, 10, 47])
def ir70_r12 : IC := .reg [⟨some 48, none, false, .mv (.t 8)⟩,
  ⟨some 49, none, false, .mv (.t 0)⟩,
  ⟨some 50, none, false, .nilck (.t 49)⟩,
  ⟨some 51, none, false, .fad 4 (.t 50)⟩,
  ⟨some 52, none, false, .ldc (.t 51)⟩,
  ⟨some 53, none, false, .nilck (.t 48)⟩,
  ⟨some 54, none, false, .fad 2 (.t 53)⟩,
  ⟨none, none, false, .st 1 (.t 54) (.t 52)⟩] (some [9, 10])
def ir70_11 : IC := .cond (.t 47) ir70_r12 .skip
def ir70_12 : IC := .seq ir70_r11 ir70_11
def ir70_13 : IC := .seq ir70_r10 ir70_12
def ir70_14 : IC := .cond (.t 39) ir70_13 .skip
def ir70_15 : IC := .seq ir70_r9 ir70_14
def ir70_r13 : IC := .reg [⟨some 55, none, false, .mv (.t 10)⟩,
  ⟨some 56, none, false, .mv (.t 9)⟩,
  ⟨some 6, none, false, .mv (.t 55)⟩,
  ⟨some 7, none, false, .mv (.t 56)⟩] (some [6, 7])
def ir70_16 : IC := .seq ir70_r13 .ret
def ir70_17 : IC := .seq ir70_15 ir70_16
def ir70_18 : IC := .seq ir70_r8 ir70_17
def ir70_19 : IC := .seq ir70_10 ir70_18
def ir70_20 : IC := .seq ir70_r1 ir70_19
def ir70_21 : IC := .seq ir70_r0 ir70_20
def ir70 : IC := ir70_21
theorem fn70 : FnIs Try.prog 70 ir70 57 [.tmp 6, .tmp 7] := ⟨Try.f70, Try.f70.body.getD .skip, Try.func70, by kernel_rfl, by kernel_rfl, by kernel_rfl, by kernel_rfl⟩
/- boule/bouleref11.Sign · slots 65 · names 0:s 1:lot 2:person 3:s 4:lot 5:person 9:e 10:x 11:free · results [6, 7, 8] -/
def ir71_r0 : IC := .reg [⟨some 3, none, false, .box (.t 0)⟩,
  ⟨some 6, none, false, .alloc [(.bool false), (.slice none 0 0), (.slice none 0 0), (.slice none 0 0), (.int .i64 0), (.slice none 0 0), (.slice none 0 0), (.slice none 0 0)]⟩,
  ⟨some 7, none, false, .mv (.k (.bool false))⟩,
  ⟨some 8, none, false, .mv (.k (.int .i64 0))⟩] (some [1, 2, 3, 6])
def ir71_r1 : IC := .reg [⟨some 12, none, false, .lda 8 (.t 3)⟩,
  ⟨some 13, none, false, .mv (.t 1)⟩,
  ⟨some 14, none, false, .call (.f 102) [(.t 12), (.t 13)]⟩,
  ⟨some 9, none, false, .mv (.t 14)⟩] (some [1, 2, 3, 6, 9])
def ir71_r2 : IC := .reg [⟨some 15, none, false, .mv (.t 9)⟩,
  ⟨some 16, none, false, .cmp .neq (.t 15) (.k (.int .i64 0))⟩] (some [1, 2, 3, 6, 9, 16])
def ir71_r3 : IC := .reg [⟨some 17, none, false, .lda 8 (.t 3)⟩,
  ⟨some 18, none, false, .mv (.t 9)⟩,
  ⟨none, none, false, .st 8 (.t 6) (.t 17)⟩,
  ⟨some 7, none, false, .mv (.k (.bool false))⟩,
  ⟨some 8, none, false, .mv (.t 18)⟩] (some [6, 7, 8])
def ir71_1 : IC := .seq ir71_r3 .ret
def ir71_2 : IC := .cond (.t 16) ir71_1 .skip
def ir71_3 : IC := .seq ir71_r2 ir71_2
def ir71_4 : IC := .seq ir71_r1 ir71_3
def ir71_r4 : IC := .reg [⟨some 19, none, false, .fad 5 (.t 3)⟩,
  ⟨some 20, none, false, .ldc (.t 19)⟩,
  ⟨some 21, none, false, .mv (.t 1)⟩,
  ⟨some 22, none, false, .ar .sub (.t 21) (.k (.int .i64 1))⟩,
  ⟨some 23, none, false, .iad 5 (.t 20) (.t 22)⟩,
  ⟨some 24, none, false, .lda 5 (.t 23)⟩,
  ⟨some 10, none, false, .alloc [(.int .i64 0), (.int .i64 0), (.int .i64 0), (.int .u8 0), (.int .i64 0)]⟩,
  ⟨none, none, false, .st 5 (.t 10) (.t 24)⟩] (some [1, 2, 3, 6, 10])
def ir71_r5 : IC := .reg [⟨some 26, none, false, .mv (.t 2)⟩,
  ⟨some 27, none, false, .call (.f 48) [(.t 26), (.k (.int .i64 1)), (.k (.int .i64 99))]⟩,
  ⟨some 28, none, false, .not (.t 27)⟩,
  ⟨some 25, none, false, .mv (.t 28)⟩] (some [1, 2, 3, 6, 10, 25])
def ir71_r6 : IC := .reg [⟨some 29, none, false, .lda 8 (.t 3)⟩,
  ⟨none, none, false, .st 8 (.t 6) (.t 29)⟩,
  ⟨some 7, none, false, .mv (.k (.bool false))⟩,
  ⟨some 8, none, false, .mv (.k (.int .i64 3))⟩] (some [6, 7, 8])
def ir71_5 : IC := .seq ir71_r6 .ret
def ir71_r7 : IC := .reg [⟨some 31, none, false, .fad 3 (.t 10)⟩,
  ⟨some 32, none, false, .ldc (.t 31)⟩,
  ⟨some 33, none, false, .cmp .eql (.t 32) (.k (.int .u8 0))⟩,
  ⟨some 30, none, false, .mv (.t 33)⟩] (some [1, 2, 3, 6, 10, 30])
def ir71_r8 : IC := .reg [⟨some 34, none, false, .lda 8 (.t 3)⟩,
  ⟨none, none, false, .st 8 (.t 6) (.t 34)⟩,
  ⟨some 7, none, false, .mv (.k (.bool false))⟩,
  ⟨some 8, none, false, .mv (.k (.int .i64 9))⟩] (some [6, 7, 8])
def ir71_6 : IC := .seq ir71_r8 .ret
def ir71_r9 : IC := .reg [⟨some 36, none, false, .fad 4 (.t 10)⟩,
  ⟨some 37, none, false, .ldc (.t 36)⟩,
  ⟨some 38, none, false, .mv (.t 2)⟩,
  ⟨some 39, none, false, .cmp .eql (.t 37) (.t 38)⟩,
  ⟨some 35, none, false, .mv (.t 39)⟩] (some [1, 2, 3, 6, 10, 35])
def ir71_r10 : IC := .reg [⟨some 40, none, false, .lda 8 (.t 3)⟩,
  ⟨none, none, false, .st 8 (.t 6) (.t 40)⟩,
  ⟨some 7, none, false, .mv (.k (.bool false))⟩,
  ⟨some 8, none, false, .mv (.k (.int .i64 6))⟩] (some [6, 7, 8])
def ir71_7 : IC := .seq ir71_r10 .ret
def ir71_8 : IC := .cond (.t 35) ir71_7 .skip
def ir71_9 : IC := .seq ir71_r9 ir71_8
def ir71_10 : IC := .cond (.t 30) ir71_6 ir71_9
def ir71_11 : IC := .seq ir71_r7 ir71_10
def ir71_12 : IC := .cond (.t 25) ir71_5 ir71_11
def ir71_13 : IC := .seq ir71_r5 ir71_12
def ir71_14 : IC := .block 0 ir71_13
def ir71_r11 : IC := .reg [⟨some 41, none, false, .lda 8 (.t 3)⟩,
  ⟨some 42, none, false, .call (.f 100) [(.t 41)]⟩,
  ⟨none, none, false, .st 8 (.t 3) (.t 42)⟩] (some [1, 2, 3, 6, 10])
def ir71_r12 : IC := .reg [⟨some 43, none, false, .fad 4 (.t 10)⟩,
  ⟨some 44, none, false, .ldc (.t 43)⟩,
  ⟨some 45, none, false, .cmp .neq (.t 44) (.k (.int .i64 0))⟩,
  ⟨some 11, none, false, .mv (.t 45)⟩] (some [1, 2, 3, 6, 10, 11])
def ir71_r13 : IC := .reg [⟨some 46, none, false, .mv (.t 11)⟩] (some [1, 2, 3, 6, 10, 11, 46])
def ir71_r14 : IC := .reg [⟨some 47, none, false, .fad 3 (.t 10)⟩,
  ⟨none, none, false, .st 1 (.t 47) (.k (.int .u8 0))⟩,
  ⟨some 48, none, false, .fad 4 (.t 10)⟩,
  ⟨none, none, false, .st 1 (.t 48) (.k (.int .i64 0))⟩] (some [1, 3, 6, 10, 11])
def ir71_r15 : IC := .reg [⟨some 49, none, false, .fad 1 (.t 10)⟩,
  ⟨some 50, none, false, .ldc (.t 49)⟩,
  ⟨some 51, none, false, .cmp .lss (.t 50) (.k (.int .i64 0))⟩] (some [1, 3, 6, 10, 11, 51])
def ir71_r16 : IC := .reg [⟨some 52, none, false, .fad 4 (.t 3)⟩,
  ⟨some 53, none, false, .ldc (.t 52)⟩,
  ⟨some 54, none, false, .fad 2 (.t 10)⟩,
  ⟨none, none, false, .st 1 (.t 54) (.t 53)⟩] (some [1, 3, 6, 10, 11])
def ir71_15 : IC := .cond (.t 51) ir71_r16 .skip
def ir71_16 : IC := .seq ir71_r15 ir71_15
def ir71_17 : IC := .seq ir71_r14 ir71_16
def ir71_r17 : IC := .reg [⟨some 55, none, false, .mv (.t 2)⟩,
  ⟨some 56, none, false, .fad 4 (.t 10)⟩,
  ⟨none, none, false, .st 1 (.t 56) (.t 55)⟩] (some [1, 3, 6, 10, 11])
def ir71_18 : IC := .cond (.t 46) ir71_17 ir71_r17
def ir71_19 : IC := .seq ir71_r13 ir71_18
def ir71_r18 : IC := .reg [⟨some 57, none, false, .fad 5 (.t 3)⟩,
  ⟨some 58, none, false, .ldc (.t 57)⟩,
  ⟨some 59, none, false, .mv (.t 1)⟩,
  ⟨some 60, none, false, .ar .sub (.t 59) (.k (.int .i64 1))⟩,
  ⟨some 61, none, false, .lda 5 (.t 10)⟩,
  ⟨some 62, none, false, .iad 5 (.t 58) (.t 60)⟩,
  ⟨none, none, false, .st 5 (.t 62) (.t 61)⟩] (some [3, 6, 11])
def ir71_r19 : IC := .reg [⟨some 63, none, false, .lda 8 (.t 3)⟩,
  ⟨some 64, none, false, .mv (.t 11)⟩,
  ⟨none, none, false, .st 8 (.t 6) (.t 63)⟩,
  ⟨some 7, none, false, .mv (.t 64)⟩,
  ⟨some 8, none, false, .mv (.k (.int .i64 0))⟩] (some [6, 7, 8])
def ir71_20 : IC := .seq ir71_r19 .ret
def ir71_21 : IC := .seq ir71_r18 ir71_20
def ir71_22 : IC := .seq ir71_19 ir71_21
def ir71_23 : IC := .seq ir71_r12 ir71_22
def ir71_24 : IC := .seq ir71_r11 ir71_23
def ir71_25 : IC := .seq ir71_14 ir71_24
def ir71_26 : IC := .seq ir71_r4 ir71_25
def ir71_27 : IC := .seq ir71_4 ir71_26
def ir71_28 : IC := .seq ir71_r0 ir71_27
def ir71 : IC := ir71_28
theorem fn71 : FnIs Try.prog 71 ir71 65 [.cell 6 75, .tmp 7, .tmp 8] := ⟨Try.f71, Try.f71.body.getD .skip, Try.func71, by kernel_rfl, by kernel_rfl, by kernel_rfl, by kernel_rfl⟩
/- (*boule/shop.Shop).SignTool · slots 46 · names 0:s 1:number 2:person 3:s 4:number 5:person 8:t 9:e 10:free · results [6, 7] -/
def ir72_r0 : IC := .reg [⟨some 6, none, false, .mv (.k (.bool false))⟩,
  ⟨some 7, none, false, .mv (.k (.int .i64 0))⟩] (some [0, 1, 2])
def ir72_r1 : IC := .reg [⟨some 12, none, false, .mv (.t 0)⟩,
  ⟨some 13, none, false, .mv (.t 1)⟩,
  ⟨some 14, none, false, .call (.f 77) [(.t 12), (.t 13)]⟩,
  ⟨some 11, none, false, .mv (.t 14)⟩,
  ⟨some 15, none, false, .ext (.t 11) 0⟩,
  ⟨some 16, none, false, .ext (.t 11) 1⟩,
  ⟨some 8, none, false, .mv (.t 15)⟩,
  ⟨some 9, none, false, .mv (.t 16)⟩] (some [2, 8, 9])
def ir72_r2 : IC := .reg [⟨some 18, none, false, .mv (.t 9)⟩,
  ⟨some 19, none, false, .cmp .neq (.t 18) (.k (.int .i64 0))⟩,
  ⟨some 17, none, false, .mv (.t 19)⟩] (some [2, 8, 9, 17])
def ir72_r3 : IC := .reg [⟨some 20, none, false, .mv (.t 9)⟩,
  ⟨some 6, none, false, .mv (.k (.bool false))⟩,
  ⟨some 7, none, false, .mv (.t 20)⟩] (some [6, 7])
def ir72_1 : IC := .seq ir72_r3 .ret
def ir72_r4 : IC := .reg [⟨some 22, none, false, .mv (.t 2)⟩,
  ⟨some 23, none, false, .call (.f 106) [(.t 22)]⟩,
  ⟨some 24, none, false, .not (.t 23)⟩,
  ⟨some 21, none, false, .mv (.t 24)⟩] (some [2, 8, 21])
def ir72_r5 : IC := .reg [⟨some 6, none, false, .mv (.k (.bool false))⟩,
  ⟨some 7, none, false, .mv (.k (.int .i64 3))⟩] (some [6, 7])
def ir72_2 : IC := .seq ir72_r5 .ret
def ir72_r6 : IC := .reg [⟨some 26, none, false, .mv (.t 8)⟩,
  ⟨some 27, none, false, .nilck (.t 26)⟩,
  ⟨some 28, none, false, .fad 8 (.t 27)⟩,
  ⟨some 29, none, false, .ldc (.t 28)⟩,
  ⟨some 30, none, false, .not (.t 29)⟩,
  ⟨some 25, none, false, .mv (.t 30)⟩] (some [2, 8, 25])
def ir72_r7 : IC := .reg [⟨some 6, none, false, .mv (.k (.bool false))⟩,
  ⟨some 7, none, false, .mv (.k (.int .i64 9))⟩] (some [6, 7])
def ir72_3 : IC := .seq ir72_r7 .ret
def ir72_4 : IC := .cond (.t 25) ir72_3 .skip
def ir72_5 : IC := .seq ir72_r6 ir72_4
def ir72_6 : IC := .cond (.t 21) ir72_2 ir72_5
def ir72_7 : IC := .seq ir72_r4 ir72_6
def ir72_8 : IC := .cond (.t 17) ir72_1 ir72_7
def ir72_9 : IC := .seq ir72_r2 ir72_8
def ir72_10 : IC := .block 0 ir72_9
def ir72_r8 : IC := .reg [⟨some 32, none, false, .mv (.t 8)⟩,
  ⟨some 33, none, false, .nilck (.t 32)⟩,
  ⟨some 34, none, false, .fad 9 (.t 33)⟩,
  ⟨some 35, none, false, .mv (.t 2)⟩,
  ⟨some 36, none, false, .call (.f 107) [(.t 34), (.t 35)]⟩,
  ⟨some 31, none, false, .mv (.t 36)⟩,
  ⟨some 37, none, false, .ext (.t 31) 0⟩,
  ⟨some 38, none, false, .ext (.t 31) 1⟩,
  ⟨some 10, none, false, .mv (.t 37)⟩,
  ⟨some 9, none, false, .mv (.t 38)⟩] (some [8, 9, 10])
def ir72_r9 : IC := .reg [⟨some 39, none, false, .mv (.t 8)⟩,
  ⟨some 40, none, false, .mv (.t 10)⟩,
  ⟨some 41, none, false, .not (.t 40)⟩,
  ⟨some 42, none, false, .nilck (.t 39)⟩,
  ⟨some 43, none, false, .fad 8 (.t 42)⟩,
  ⟨none, none, false, .st 1 (.t 43) (.t 41)⟩] (some [9, 10])
def ir72_r10 : IC := .reg [⟨some 44, none, false, .mv (.t 10)⟩,
  ⟨some 45, none, false, .mv (.t 9)⟩,
  ⟨some 6, none, false, .mv (.t 44)⟩,
  ⟨some 7, none, false, .mv (.t 45)⟩] (some [6, 7])
def ir72_11 : IC := .seq ir72_r10 .ret
def ir72_12 : IC := .seq ir72_r9 ir72_11
def ir72_13 : IC := .seq ir72_r8 ir72_12
def ir72_14 : IC := .seq ir72_10 ir72_13
def ir72_15 : IC := .seq ir72_r1 ir72_14
def ir72_16 : IC := .seq ir72_r0 ir72_15
def ir72 : IC := ir72_16
theorem fn72 : FnIs Try.prog 72 ir72 46 [.tmp 6, .tmp 7] := ⟨Try.f72, Try.f72.body.getD .skip, Try.func72, by kernel_rfl, by kernel_rfl, by kernel_rfl, by kernel_rfl⟩
/- boule/bouleref11.SignTool · slots 57 · names 0:s 1:tool 2:person 3:s 4:tool 5:person 9:e 10:t 11:free · results [6, 7, 8] -/
def ir73_r0 : IC := .reg [⟨some 3, none, false, .box (.t 0)⟩,
  ⟨some 6, none, false, .alloc [(.bool false), (.slice none 0 0), (.slice none 0 0), (.slice none 0 0), (.int .i64 0), (.slice none 0 0), (.slice none 0 0), (.slice none 0 0)]⟩,
  ⟨some 7, none, false, .mv (.k (.bool false))⟩,
  ⟨some 8, none, false, .mv (.k (.int .i64 0))⟩] (some [1, 2, 3, 6])
def ir73_r1 : IC := .reg [⟨some 12, none, false, .lda 8 (.t 3)⟩,
  ⟨some 13, none, false, .mv (.t 1)⟩,
  ⟨some 14, none, false, .call (.f 101) [(.t 12), (.t 13)]⟩,
  ⟨some 9, none, false, .mv (.t 14)⟩] (some [1, 2, 3, 6, 9])
def ir73_r2 : IC := .reg [⟨some 15, none, false, .mv (.t 9)⟩,
  ⟨some 16, none, false, .cmp .neq (.t 15) (.k (.int .i64 0))⟩] (some [1, 2, 3, 6, 9, 16])
def ir73_r3 : IC := .reg [⟨some 17, none, false, .lda 8 (.t 3)⟩,
  ⟨some 18, none, false, .mv (.t 9)⟩,
  ⟨none, none, false, .st 8 (.t 6) (.t 17)⟩,
  ⟨some 7, none, false, .mv (.k (.bool false))⟩,
  ⟨some 8, none, false, .mv (.t 18)⟩] (some [6, 7, 8])
def ir73_1 : IC := .seq ir73_r3 .ret
def ir73_2 : IC := .cond (.t 16) ir73_1 .skip
def ir73_3 : IC := .seq ir73_r2 ir73_2
def ir73_4 : IC := .seq ir73_r1 ir73_3
def ir73_r4 : IC := .reg [⟨some 19, none, false, .fad 6 (.t 3)⟩,
  ⟨some 20, none, false, .ldc (.t 19)⟩,
  ⟨some 21, none, false, .mv (.t 1)⟩,
  ⟨some 22, none, false, .iad 7 (.t 20) (.t 21)⟩,
  ⟨some 23, none, false, .lda 7 (.t 22)⟩,
  ⟨some 10, none, false, .alloc [(.int .i64 0), (.int .i64 0), (.slice none 0 0), (.int .i64 0), (.bool false), (.int .i64 0), (.slice none 0 0)]⟩,
  ⟨none, none, false, .st 7 (.t 10) (.t 23)⟩] (some [1, 2, 3, 6, 10])
def ir73_r5 : IC := .reg [⟨some 25, none, false, .mv (.t 2)⟩,
  ⟨some 26, none, false, .call (.f 48) [(.t 25), (.k (.int .i64 1)), (.k (.int .i64 99))]⟩,
  ⟨some 27, none, false, .not (.t 26)⟩,
  ⟨some 24, none, false, .mv (.t 27)⟩] (some [1, 2, 3, 6, 10, 24])
def ir73_r6 : IC := .reg [⟨some 28, none, false, .lda 8 (.t 3)⟩,
  ⟨none, none, false, .st 8 (.t 6) (.t 28)⟩,
  ⟨some 7, none, false, .mv (.k (.bool false))⟩,
  ⟨some 8, none, false, .mv (.k (.int .i64 3))⟩] (some [6, 7, 8])
def ir73_5 : IC := .seq ir73_r6 .ret
def ir73_r7 : IC := .reg [⟨some 30, none, false, .fad 4 (.t 10)⟩,
  ⟨some 31, none, false, .ldc (.t 30)⟩,
  ⟨some 32, none, false, .not (.t 31)⟩,
  ⟨some 29, none, false, .mv (.t 32)⟩] (some [1, 2, 3, 6, 10, 29])
def ir73_r8 : IC := .reg [⟨some 33, none, false, .lda 8 (.t 3)⟩,
  ⟨none, none, false, .st 8 (.t 6) (.t 33)⟩,
  ⟨some 7, none, false, .mv (.k (.bool false))⟩,
  ⟨some 8, none, false, .mv (.k (.int .i64 9))⟩] (some [6, 7, 8])
def ir73_6 : IC := .seq ir73_r8 .ret
def ir73_r9 : IC := .reg [⟨some 35, none, false, .fad 5 (.t 10)⟩,
  ⟨some 36, none, false, .ldc (.t 35)⟩,
  ⟨some 37, none, false, .mv (.t 2)⟩,
  ⟨some 38, none, false, .cmp .eql (.t 36) (.t 37)⟩,
  ⟨some 34, none, false, .mv (.t 38)⟩] (some [1, 2, 3, 6, 10, 34])
def ir73_r10 : IC := .reg [⟨some 39, none, false, .lda 8 (.t 3)⟩,
  ⟨none, none, false, .st 8 (.t 6) (.t 39)⟩,
  ⟨some 7, none, false, .mv (.k (.bool false))⟩,
  ⟨some 8, none, false, .mv (.k (.int .i64 6))⟩] (some [6, 7, 8])
def ir73_7 : IC := .seq ir73_r10 .ret
def ir73_8 : IC := .cond (.t 34) ir73_7 .skip
def ir73_9 : IC := .seq ir73_r9 ir73_8
def ir73_10 : IC := .cond (.t 29) ir73_6 ir73_9
def ir73_11 : IC := .seq ir73_r7 ir73_10
def ir73_12 : IC := .cond (.t 24) ir73_5 ir73_11
def ir73_13 : IC := .seq ir73_r5 ir73_12
def ir73_14 : IC := .block 0 ir73_13
def ir73_r11 : IC := .reg [⟨some 40, none, false, .lda 8 (.t 3)⟩,
  ⟨some 41, none, false, .call (.f 100) [(.t 40)]⟩,
  ⟨none, none, false, .st 8 (.t 3) (.t 41)⟩] (some [1, 2, 3, 6, 10])
def ir73_r12 : IC := .reg [⟨some 42, none, false, .fad 5 (.t 10)⟩,
  ⟨some 43, none, false, .ldc (.t 42)⟩,
  ⟨some 44, none, false, .cmp .neq (.t 43) (.k (.int .i64 0))⟩,
  ⟨some 11, none, false, .mv (.t 44)⟩] (some [1, 2, 3, 6, 10, 11])
def ir73_r13 : IC := .reg [⟨some 45, none, false, .mv (.t 11)⟩] (some [1, 2, 3, 6, 10, 11, 45])
def ir73_r14 : IC := .reg [⟨some 46, none, false, .fad 4 (.t 10)⟩,
  ⟨none, none, false, .st 1 (.t 46) (.k (.bool false))⟩,
  ⟨some 47, none, false, .fad 5 (.t 10)⟩,
  ⟨none, none, false, .st 1 (.t 47) (.k (.int .i64 0))⟩] (some [1, 3, 6, 10, 11])
def ir73_r15 : IC := .reg [⟨some 48, none, false, .mv (.t 2)⟩,
  ⟨some 49, none, false, .fad 5 (.t 10)⟩,
  ⟨none, none, false, .st 1 (.t 49) (.t 48)⟩] (some [1, 3, 6, 10, 11])
def ir73_15 : IC := .cond (.t 45) ir73_r14 ir73_r15
def ir73_16 : IC := .seq ir73_r13 ir73_15
def ir73_r16 : IC := .reg [⟨some 50, none, false, .fad 6 (.t 3)⟩,
  ⟨some 51, none, false, .ldc (.t 50)⟩,
  ⟨some 52, none, false, .mv (.t 1)⟩,
  ⟨some 53, none, false, .lda 7 (.t 10)⟩,
  ⟨some 54, none, false, .iad 7 (.t 51) (.t 52)⟩,
  ⟨none, none, false, .st 7 (.t 54) (.t 53)⟩] (some [3, 6, 11])
def ir73_r17 : IC := .reg [⟨some 55, none, false, .lda 8 (.t 3)⟩,
  ⟨some 56, none, false, .mv (.t 11)⟩,
  ⟨none, none, false, .st 8 (.t 6) (.t 55)⟩,
  ⟨some 7, none, false, .mv (.t 56)⟩,
  ⟨some 8, none, false, .mv (.k (.int .i64 0))⟩] (some [6, 7, 8])
def ir73_17 : IC := .seq ir73_r17 .ret
def ir73_18 : IC := .seq ir73_r16 ir73_17
def ir73_19 : IC := .seq ir73_16 ir73_18
def ir73_20 : IC := .seq ir73_r12 ir73_19
def ir73_21 : IC := .seq ir73_r11 ir73_20
def ir73_22 : IC := .seq ir73_14 ir73_21
def ir73_23 : IC := .seq ir73_r4 ir73_22
def ir73_24 : IC := .seq ir73_4 ir73_23
def ir73_25 : IC := .seq ir73_r0 ir73_24
def ir73 : IC := ir73_25
theorem fn73 : FnIs Try.prog 73 ir73 57 [.cell 6 75, .tmp 7, .tmp 8] := ⟨Try.f73, Try.f73.body.getD .skip, Try.func73, by kernel_rfl, by kernel_rfl, by kernel_rfl, by kernel_rfl⟩
/- (*boule/shop.Shop).Service · slots 26 · names 0:s 1:number 2:s 3:number 5:t 6:e · results [4] -/
def ir74_r0 : IC := .reg [⟨some 4, none, false, .mv (.k (.int .i64 0))⟩] (some [0, 1])
def ir74_r1 : IC := .reg [⟨some 8, none, false, .mv (.t 0)⟩,
  ⟨some 9, none, false, .mv (.t 1)⟩,
  ⟨some 10, none, false, .call (.f 77) [(.t 8), (.t 9)]⟩,
  ⟨some 7, none, false, .mv (.t 10)⟩,
  ⟨some 11, none, false, .ext (.t 7) 0⟩,
  ⟨some 12, none, false, .ext (.t 7) 1⟩,
  ⟨some 5, none, false, .mv (.t 11)⟩,
  ⟨some 6, none, false, .mv (.t 12)⟩] (some [5, 6])
def ir74_r2 : IC := .reg [⟨some 14, none, false, .mv (.t 6)⟩,
  ⟨some 15, none, false, .cmp .neq (.t 14) (.k (.int .i64 0))⟩,
  ⟨some 13, none, false, .mv (.t 15)⟩] (some [5, 6, 13])
def ir74_r3 : IC := .reg [⟨some 16, none, false, .mv (.t 6)⟩,
  ⟨some 4, none, false, .mv (.t 16)⟩] (some [4])
def ir74_1 : IC := .seq ir74_r3 .ret
def ir74_r4 : IC := .reg [⟨some 18, none, false, .mv (.t 5)⟩,
  ⟨some 19, none, false, .nilck (.t 18)⟩,
  ⟨some 20, none, false, .fad 6 (.t 19)⟩,
  ⟨some 21, none, false, .ldc (.t 20)⟩,
  ⟨some 22, none, false, .gen (.binOp .neq 146 (.tmp 21) (.const (.pointer none)) 146)⟩,
  ⟨some 17, none, false, .mv (.t 22)⟩] (some [5, 17])
def ir74_r5 : IC := .reg [⟨some 4, none, false, .mv (.k (.int .i64 9))⟩] (some [4])
def ir74_2 : IC := .seq ir74_r5 .ret
def ir74_3 : IC := .cond (.t 17) ir74_2 .skip
def ir74_4 : IC := .seq ir74_r4 ir74_3
def ir74_5 : IC := .cond (.t 13) ir74_1 ir74_4
def ir74_6 : IC := .seq ir74_r2 ir74_5
def ir74_7 : IC := .block 0 ir74_6
def ir74_r6 : IC := .reg [⟨some 23, none, false, .mv (.t 5)⟩,
  ⟨some 24, none, false, .nilck (.t 23)⟩,
  ⟨some 25, none, false, .fad 7 (.t 24)⟩,
  ⟨none, none, false, .st 1 (.t 25) (.k (.int .i64 0))⟩] (some [])
def ir74_r7 : IC := .reg [⟨some 4, none, false, .mv (.k (.int .i64 0))⟩] (some [4])
def ir74_8 : IC := .seq ir74_r7 .ret
def ir74_9 : IC := .seq ir74_r6 ir74_8
def ir74_10 : IC := .seq ir74_7 ir74_9
def ir74_11 : IC := .seq ir74_r1 ir74_10
def ir74_12 : IC := .seq ir74_r0 ir74_11
def ir74 : IC := ir74_12
theorem fn74 : FnIs Try.prog 74 ir74 26 [.tmp 4] := ⟨Try.f74, Try.f74.body.getD .skip, Try.func74, by kernel_rfl, by kernel_rfl, by kernel_rfl, by kernel_rfl⟩
/- boule/bouleref11.Service · slots 30 · names 0:s 1:tool 2:s 3:tool 6:e · results [4, 5] -/
def ir75_r0 : IC := .reg [⟨some 2, none, false, .box (.t 0)⟩,
  ⟨some 4, none, false, .alloc [(.bool false), (.slice none 0 0), (.slice none 0 0), (.slice none 0 0), (.int .i64 0), (.slice none 0 0), (.slice none 0 0), (.slice none 0 0)]⟩,
  ⟨some 5, none, false, .mv (.k (.int .i64 0))⟩] (some [1, 2, 4])
def ir75_r1 : IC := .reg [⟨some 7, none, false, .lda 8 (.t 2)⟩,
  ⟨some 8, none, false, .mv (.t 1)⟩,
  ⟨some 9, none, false, .call (.f 101) [(.t 7), (.t 8)]⟩,
  ⟨some 6, none, false, .mv (.t 9)⟩] (some [1, 2, 4, 6])
def ir75_r2 : IC := .reg [⟨some 10, none, false, .mv (.t 6)⟩,
  ⟨some 11, none, false, .cmp .neq (.t 10) (.k (.int .i64 0))⟩] (some [1, 2, 4, 6, 11])
def ir75_r3 : IC := .reg [⟨some 12, none, false, .lda 8 (.t 2)⟩,
  ⟨some 13, none, false, .mv (.t 6)⟩,
  ⟨none, none, false, .st 8 (.t 4) (.t 12)⟩,
  ⟨some 5, none, false, .mv (.t 13)⟩] (some [4, 5])
def ir75_1 : IC := .seq ir75_r3 .ret
def ir75_2 : IC := .cond (.t 11) ir75_1 .skip
def ir75_3 : IC := .seq ir75_r2 ir75_2
def ir75_4 : IC := .seq ir75_r1 ir75_3
def ir75_r4 : IC := .reg [⟨some 14, none, false, .fad 6 (.t 2)⟩,
  ⟨some 15, none, false, .ldc (.t 14)⟩,
  ⟨some 16, none, false, .mv (.t 1)⟩,
  ⟨some 17, none, false, .iad 7 (.t 15) (.t 16)⟩,
  ⟨some 18, none, false, .fad 0 (.t 17)⟩,
  ⟨some 19, none, false, .ldc (.t 18)⟩,
  ⟨some 20, none, false, .cmp .geq (.t 19) (.k (.int .i64 0))⟩] (some [1, 2, 4, 20])
def ir75_r5 : IC := .reg [⟨some 21, none, false, .lda 8 (.t 2)⟩,
  ⟨none, none, false, .st 8 (.t 4) (.t 21)⟩,
  ⟨some 5, none, false, .mv (.k (.int .i64 9))⟩] (some [4, 5])
def ir75_5 : IC := .seq ir75_r5 .ret
def ir75_6 : IC := .cond (.t 20) ir75_5 .skip
def ir75_7 : IC := .seq ir75_r4 ir75_6
def ir75_r6 : IC := .reg [⟨some 22, none, false, .lda 8 (.t 2)⟩,
  ⟨some 23, none, false, .call (.f 100) [(.t 22)]⟩,
  ⟨none, none, false, .st 8 (.t 2) (.t 23)⟩] (some [1, 2, 4])
def ir75_r7 : IC := .reg [⟨some 24, none, false, .fad 6 (.t 2)⟩,
  ⟨some 25, none, false, .ldc (.t 24)⟩,
  ⟨some 26, none, false, .mv (.t 1)⟩,
  ⟨some 27, none, false, .iad 7 (.t 25) (.t 26)⟩,
  ⟨some 28, none, false, .fad 3 (.t 27)⟩,
  ⟨none, none, false, .st 1 (.t 28) (.k (.int .i64 0))⟩] (some [2, 4])
def ir75_r8 : IC := .reg [⟨some 29, none, false, .lda 8 (.t 2)⟩,
  ⟨none, none, false, .st 8 (.t 4) (.t 29)⟩,
  ⟨some 5, none, false, .mv (.k (.int .i64 0))⟩] (some [4, 5])
def ir75_8 : IC := .seq ir75_r8 .ret
def ir75_9 : IC := .seq ir75_r7 ir75_8
def ir75_10 : IC := .seq ir75_r6 ir75_9
def ir75_11 : IC := .seq ir75_7 ir75_10
def ir75_12 : IC := .seq ir75_4 ir75_11
def ir75_13 : IC := .seq ir75_r0 ir75_12
def ir75 : IC := ir75_13
theorem fn75 : FnIs Try.prog 75 ir75 30 [.cell 4 75, .tmp 5] := ⟨Try.f75, Try.f75.body.getD .skip, Try.func75, by kernel_rfl, by kernel_rfl, by kernel_rfl, by kernel_rfl⟩
/- (*boule/shop.Shop).lot · slots 13 · names 0:s 1:number 2:s 3:number · results [4, 5] -/
def ir76_r0 : IC := .reg [⟨some 4, none, false, .mv (.k (.pointer none))⟩,
  ⟨some 5, none, false, .mv (.k (.int .i64 0))⟩] (some [0, 1])
def ir76_r1 : IC := .reg [⟨some 6, none, false, .mv (.t 1)⟩,
  ⟨some 7, none, false, .cmp .lss (.t 6) (.k (.int .i64 1))⟩] (some [0, 1, 7])
def ir76_r2 : IC := .reg [⟨some 1, none, false, .mv (.k (.int .i64 0))⟩] (some [0, 1])
def ir76_1 : IC := .cond (.t 7) ir76_r2 .skip
def ir76_2 : IC := .seq ir76_r1 ir76_1
def ir76_r3 : IC := .reg [⟨some 8, none, false, .mv (.t 0)⟩,
  ⟨some 9, none, false, .mv (.t 1)⟩,
  ⟨some 10, none, false, .call (.f 108) [(.t 8), (.f 109), (.t 9), (.k (.int .i64 1))]⟩,
  ⟨some 11, none, false, .ext (.t 10) 0⟩,
  ⟨some 12, none, false, .ext (.t 10) 1⟩,
  ⟨some 4, none, false, .mv (.t 11)⟩,
  ⟨some 5, none, false, .mv (.t 12)⟩] (some [4, 5])
def ir76_3 : IC := .seq ir76_r3 .ret
def ir76_4 : IC := .seq ir76_2 ir76_3
def ir76_5 : IC := .seq ir76_r0 ir76_4
def ir76 : IC := ir76_5
theorem fn76 : FnIs Try.prog 76 ir76 13 [.tmp 4, .tmp 5] := ⟨Try.f76, Try.f76.body.getD .skip, Try.func76, by kernel_rfl, by kernel_rfl, by kernel_rfl, by kernel_rfl⟩
/- (*boule/shop.Shop).tool · slots 11 · names 0:s 1:number 2:s 3:number · results [4, 5] -/
def ir77_r0 : IC := .reg [⟨some 4, none, false, .mv (.k (.pointer none))⟩,
  ⟨some 5, none, false, .mv (.k (.int .i64 0))⟩] (some [0, 1])
def ir77_r1 : IC := .reg [⟨some 6, none, false, .mv (.t 0)⟩,
  ⟨some 7, none, false, .mv (.t 1)⟩,
  ⟨some 8, none, false, .call (.f 110) [(.t 6), (.f 111), (.t 7), (.k (.int .i64 0))]⟩,
  ⟨some 9, none, false, .ext (.t 8) 0⟩,
  ⟨some 10, none, false, .ext (.t 8) 1⟩,
  ⟨some 4, none, false, .mv (.t 9)⟩,
  ⟨some 5, none, false, .mv (.t 10)⟩] (some [4, 5])
def ir77_1 : IC := .seq ir77_r1 .ret
def ir77_2 : IC := .seq ir77_r0 ir77_1
def ir77 : IC := ir77_2
theorem fn77 : FnIs Try.prog 77 ir77 11 [.tmp 4, .tmp 5] := ⟨Try.f77, Try.f77.body.getD .skip, Try.func77, by kernel_rfl, by kernel_rfl, by kernel_rfl, by kernel_rfl⟩
/- (boule/bouleref11.Shop).tool · slots 14 · names 0:s 1:n 2:s 3:n · results [4] -/
def ir101_r0 : IC := .reg [⟨some 2, none, false, .box (.t 0)⟩,
  ⟨some 4, none, false, .mv (.k (.int .i64 0))⟩] (some [1, 2])
def ir101_r1 : IC := .reg [⟨some 5, none, false, .fad 0 (.t 2)⟩,
  ⟨some 6, none, false, .ldc (.t 5)⟩] (some [1, 2, 6])
def ir101_r2 : IC := .reg [⟨some 4, none, false, .mv (.k (.int .i64 1))⟩] (some [4])
def ir101_1 : IC := .seq ir101_r2 .ret
def ir101_2 : IC := .cond (.t 6) ir101_1 .skip
def ir101_3 : IC := .seq ir101_r1 ir101_2
def ir101_r3 : IC := .reg [⟨some 7, none, false, .mv (.t 1)⟩,
  ⟨some 8, none, false, .fad 6 (.t 2)⟩,
  ⟨some 9, none, false, .ldc (.t 8)⟩,
  ⟨some 10, none, false, .len (.t 9)⟩,
  ⟨some 11, none, false, .ar .sub (.t 10) (.k (.int .i64 1))⟩,
  ⟨some 12, none, false, .call (.f 48) [(.t 7), (.k (.int .i64 0)), (.t 11)]⟩,
  ⟨some 13, none, false, .not (.t 12)⟩] (some [13])
def ir101_r4 : IC := .reg [⟨some 4, none, false, .mv (.k (.int .i64 7))⟩] (some [4])
def ir101_4 : IC := .seq ir101_r4 .ret
def ir101_5 : IC := .cond (.t 13) ir101_4 .skip
def ir101_6 : IC := .seq ir101_r3 ir101_5
def ir101_r5 : IC := .reg [⟨some 4, none, false, .mv (.k (.int .i64 0))⟩] (some [4])
def ir101_7 : IC := .seq ir101_r5 .ret
def ir101_8 : IC := .seq ir101_6 ir101_7
def ir101_9 : IC := .seq ir101_3 ir101_8
def ir101_10 : IC := .seq ir101_r0 ir101_9
def ir101 : IC := ir101_10
theorem fn101 : FnIs Try.prog 101 ir101 14 [.tmp 4] := ⟨Try.f101, Try.f101.body.getD .skip, Try.func101, by kernel_rfl, by kernel_rfl, by kernel_rfl, by kernel_rfl⟩
/- (boule/bouleref11.Shop).lot · slots 13 · names 0:s 1:n 2:s 3:n · results [4] -/
def ir102_r0 : IC := .reg [⟨some 2, none, false, .box (.t 0)⟩,
  ⟨some 4, none, false, .mv (.k (.int .i64 0))⟩] (some [1, 2])
def ir102_r1 : IC := .reg [⟨some 5, none, false, .fad 0 (.t 2)⟩,
  ⟨some 6, none, false, .ldc (.t 5)⟩] (some [1, 2, 6])
def ir102_r2 : IC := .reg [⟨some 4, none, false, .mv (.k (.int .i64 1))⟩] (some [4])
def ir102_1 : IC := .seq ir102_r2 .ret
def ir102_2 : IC := .cond (.t 6) ir102_1 .skip
def ir102_3 : IC := .seq ir102_r1 ir102_2
def ir102_r3 : IC := .reg [⟨some 7, none, false, .mv (.t 1)⟩,
  ⟨some 8, none, false, .fad 5 (.t 2)⟩,
  ⟨some 9, none, false, .ldc (.t 8)⟩,
  ⟨some 10, none, false, .len (.t 9)⟩,
  ⟨some 11, none, false, .call (.f 48) [(.t 7), (.k (.int .i64 1)), (.t 10)]⟩,
  ⟨some 12, none, false, .not (.t 11)⟩] (some [12])
def ir102_r4 : IC := .reg [⟨some 4, none, false, .mv (.k (.int .i64 7))⟩] (some [4])
def ir102_4 : IC := .seq ir102_r4 .ret
def ir102_5 : IC := .cond (.t 12) ir102_4 .skip
def ir102_6 : IC := .seq ir102_r3 ir102_5
def ir102_r5 : IC := .reg [⟨some 4, none, false, .mv (.k (.int .i64 0))⟩] (some [4])
def ir102_7 : IC := .seq ir102_r5 .ret
def ir102_8 : IC := .seq ir102_6 ir102_7
def ir102_9 : IC := .seq ir102_3 ir102_8
def ir102_10 : IC := .seq ir102_r0 ir102_9
def ir102 : IC := ir102_10
theorem fn102 : FnIs Try.prog 102 ir102 13 [.tmp 4] := ⟨Try.f102, Try.f102.body.getD .skip, Try.func102, by kernel_rfl, by kernel_rfl, by kernel_rfl, by kernel_rfl⟩
/- boule/shop.find[boule/shop.lot] · slots 30 · names 0:s 1:of 2:number 3:first 4:s 5:of 6:number 7:first 10:l · results [8, 9] -/
def ir108_r0 : IC := .reg [⟨some 8, none, false, .mv (.k (.pointer none))⟩,
  ⟨some 9, none, false, .mv (.k (.int .i64 0))⟩] (some [0, 1, 2, 3])
def ir108_r1 : IC := .reg [⟨some 11, none, false, .mv (.t 0)⟩,
  ⟨some 12, none, false, .gen (.binOp .eql 65 (.tmp 11) (.const (.pointer none)) 65)⟩] (some [0, 1, 2, 3, 12])
def ir108_r2 : IC := .reg [⟨some 8, none, false, .mv (.k (.pointer none))⟩,
  ⟨some 9, none, false, .mv (.k (.int .i64 1))⟩] (some [8, 9])
def ir108_1 : IC := .seq ir108_r2 .ret
def ir108_2 : IC := .cond (.t 12) ir108_1 .skip
def ir108_3 : IC := .seq ir108_r1 ir108_2
def ir108_r3 : IC := .reg [⟨some 13, none, false, .mv (.t 1)⟩,
  ⟨some 14, none, false, .mv (.t 0)⟩,
  ⟨some 15, none, false, .call (.t 13) [(.t 14)]⟩,
  ⟨some 10, none, false, .mv (.t 15)⟩] (some [2, 3, 10])
def ir108_r4 : IC := .reg [⟨some 16, none, false, .mv (.t 2)⟩,
  ⟨some 17, none, false, .mv (.t 3)⟩,
  ⟨some 18, none, false, .ar .sub (.t 16) (.t 17)⟩,
  ⟨some 19, none, false, .mv (.t 10)⟩,
  ⟨some 20, none, false, .len (.t 19)⟩,
  ⟨some 21, none, false, .ar .sub (.t 20) (.k (.int .i64 1))⟩,
  ⟨some 22, none, false, .call (.f 42) [(.t 18), (.k (.int .i64 0)), (.t 21)]⟩,
  ⟨some 23, none, false, .not (.t 22)⟩] (some [2, 3, 10, 23])
def ir108_r5 : IC := .reg [⟨some 8, none, false, .mv (.k (.pointer none))⟩,
  ⟨some 9, none, false, .mv (.k (.int .i64 7))⟩] (some [8, 9])
def ir108_4 : IC := .seq ir108_r5 .ret
def ir108_5 : IC := .cond (.t 23) ir108_4 .skip
def ir108_6 : IC := .seq ir108_r4 ir108_5
def ir108_r6 : IC := .reg [⟨some 24, none, false, .mv (.t 10)⟩,
  ⟨some 25, none, false, .mv (.t 2)⟩,
  ⟨some 26, none, false, .mv (.t 3)⟩,
  ⟨some 27, none, false, .ar .sub (.t 25) (.t 26)⟩,
  ⟨some 28, none, false, .iad 1 (.t 24) (.t 27)⟩,
  ⟨some 29, none, false, .ldc (.t 28)⟩,
  ⟨some 8, none, false, .mv (.t 29)⟩,
  ⟨some 9, none, false, .mv (.k (.int .i64 0))⟩] (some [8, 9])
def ir108_7 : IC := .seq ir108_r6 .ret
def ir108_8 : IC := .seq ir108_6 ir108_7
def ir108_9 : IC := .seq ir108_r3 ir108_8
def ir108_10 : IC := .seq ir108_3 ir108_9
def ir108_11 : IC := .seq ir108_r0 ir108_10
def ir108 : IC := ir108_11
theorem fn108 : FnIs Try.prog 108 ir108 30 [.tmp 8, .tmp 9] := ⟨Try.f108, Try.f108.body.getD .skip, Try.func108, by kernel_rfl, by kernel_rfl, by kernel_rfl, by kernel_rfl⟩
/- boule/shop.find[boule/shop.tool] · slots 30 · names 0:s 1:of 2:number 3:first 4:s 5:of 6:number 7:first 10:l · results [8, 9] -/
def ir110_r0 : IC := .reg [⟨some 8, none, false, .mv (.k (.pointer none))⟩,
  ⟨some 9, none, false, .mv (.k (.int .i64 0))⟩] (some [0, 1, 2, 3])
def ir110_r1 : IC := .reg [⟨some 11, none, false, .mv (.t 0)⟩,
  ⟨some 12, none, false, .gen (.binOp .eql 65 (.tmp 11) (.const (.pointer none)) 65)⟩] (some [0, 1, 2, 3, 12])
def ir110_r2 : IC := .reg [⟨some 8, none, false, .mv (.k (.pointer none))⟩,
  ⟨some 9, none, false, .mv (.k (.int .i64 1))⟩] (some [8, 9])
def ir110_1 : IC := .seq ir110_r2 .ret
def ir110_2 : IC := .cond (.t 12) ir110_1 .skip
def ir110_3 : IC := .seq ir110_r1 ir110_2
def ir110_r3 : IC := .reg [⟨some 13, none, false, .mv (.t 1)⟩,
  ⟨some 14, none, false, .mv (.t 0)⟩,
  ⟨some 15, none, false, .call (.t 13) [(.t 14)]⟩,
  ⟨some 10, none, false, .mv (.t 15)⟩] (some [2, 3, 10])
def ir110_r4 : IC := .reg [⟨some 16, none, false, .mv (.t 2)⟩,
  ⟨some 17, none, false, .mv (.t 3)⟩,
  ⟨some 18, none, false, .ar .sub (.t 16) (.t 17)⟩,
  ⟨some 19, none, false, .mv (.t 10)⟩,
  ⟨some 20, none, false, .len (.t 19)⟩,
  ⟨some 21, none, false, .ar .sub (.t 20) (.k (.int .i64 1))⟩,
  ⟨some 22, none, false, .call (.f 42) [(.t 18), (.k (.int .i64 0)), (.t 21)]⟩,
  ⟨some 23, none, false, .not (.t 22)⟩] (some [2, 3, 10, 23])
def ir110_r5 : IC := .reg [⟨some 8, none, false, .mv (.k (.pointer none))⟩,
  ⟨some 9, none, false, .mv (.k (.int .i64 7))⟩] (some [8, 9])
def ir110_4 : IC := .seq ir110_r5 .ret
def ir110_5 : IC := .cond (.t 23) ir110_4 .skip
def ir110_6 : IC := .seq ir110_r4 ir110_5
def ir110_r6 : IC := .reg [⟨some 24, none, false, .mv (.t 10)⟩,
  ⟨some 25, none, false, .mv (.t 2)⟩,
  ⟨some 26, none, false, .mv (.t 3)⟩,
  ⟨some 27, none, false, .ar .sub (.t 25) (.t 26)⟩,
  ⟨some 28, none, false, .iad 1 (.t 24) (.t 27)⟩,
  ⟨some 29, none, false, .ldc (.t 28)⟩,
  ⟨some 8, none, false, .mv (.t 29)⟩,
  ⟨some 9, none, false, .mv (.k (.int .i64 0))⟩] (some [8, 9])
def ir110_7 : IC := .seq ir110_r6 .ret
def ir110_8 : IC := .seq ir110_6 ir110_7
def ir110_9 : IC := .seq ir110_r3 ir110_8
def ir110_10 : IC := .seq ir110_3 ir110_9
def ir110_11 : IC := .seq ir110_r0 ir110_10
def ir110 : IC := ir110_11
theorem fn110 : FnIs Try.prog 110 ir110 30 [.tmp 8, .tmp 9] := ⟨Try.f110, Try.f110.body.getD .skip, Try.func110, by kernel_rfl, by kernel_rfl, by kernel_rfl, by kernel_rfl⟩
theorem findL_f (a b : Int) {h : AH} (hs : h.sees 0 = true) : Fc Try.prog 108 [pN, .func (.func 109) #[] #[], .int .i64 a, .int .i64 b] h (.tuple #[pN, one]) h := by
  refine Fc.lift0 ?_ rfl rfl hs
  refine Fc.intro0 fn108 (by simp) rfl rfl ?_; simp only [argF]
  refine ITri.seq ?_
  refine ITri.reg pokT ?_; simp -implicitDefEqProofs (disch := first | decide | exact of_eq_true (eq_true rfl) | omega | assumption) only [ ↓vcD, vcE, evs, evP, evB, intsOf, fillC, Value.cells, pt, List.append_nil, List.nil_append, List.cons_append, List.length_cons, List.length_nil, List.filter_nil, List.map_nil, ↓List.getElem?_cons_zero, ↓List.getElem?_cons_succ, List.getElem?_cons_zero, List.getElem?_cons_succ, List.set_cons_zero, List.set_cons_succ, Option.join_some, Option.join_none, Option.map_some, List.all_cons, List.all_nil, Value.oneCell', reduceIte, reduceCtorEq, Nat.reduceEqDiff, Nat.reduceAdd, Nat.reduceMul, Nat.reduceLT, Nat.reduceBEq, Nat.reduceLeDiff, Nat.reduceSub, List.size_toArray]
  refine ITri.seq ?_
  refine ITri.seq ?_
  refine ITri.reg pokT ?_; simp -implicitDefEqProofs (disch := first | decide | exact of_eq_true (eq_true rfl) | omega | assumption) only [ ↓vcD, vcE, evs, evP, evB, intsOf, fillC, Value.cells, pt, List.append_nil, List.nil_append, List.cons_append, List.length_cons, List.length_nil, List.filter_nil, List.map_nil, ↓List.getElem?_cons_zero, ↓List.getElem?_cons_succ, List.getElem?_cons_zero, List.getElem?_cons_succ, List.set_cons_zero, List.set_cons_succ, Option.join_some, Option.join_none, Option.map_some, List.all_cons, List.all_nil, Value.oneCell', reduceIte, reduceCtorEq, Nat.reduceEqDiff, Nat.reduceAdd, Nat.reduceMul, Nat.reduceLT, Nat.reduceBEq, Nat.reduceLeDiff, Nat.reduceSub, List.size_toArray]
  refine gen_nil rfl (by kernel_rfl) ?_
  try simp -implicitDefEqProofs (disch := first | decide | exact of_eq_true (eq_true rfl) | omega | assumption) only [ ↓vcD, vcE, evs, evP, evB, intsOf, fillC, Value.cells, pt, List.append_nil, List.nil_append, List.cons_append, List.length_cons, List.length_nil, List.filter_nil, List.map_nil, ↓List.getElem?_cons_zero, ↓List.getElem?_cons_succ, List.getElem?_cons_zero, List.getElem?_cons_succ, List.set_cons_zero, List.set_cons_succ, Option.join_some, Option.join_none, Option.map_some, List.all_cons, List.all_nil, Value.oneCell', reduceIte, reduceCtorEq, Nat.reduceEqDiff, Nat.reduceAdd, Nat.reduceMul, Nat.reduceLT, Nat.reduceBEq, Nat.reduceLeDiff, Nat.reduceSub, List.size_toArray]
  refine ITri.cond (v := true) rfl (fun _ => ?_) (fun h => by cases h)
  refine ITri.seq ?_
  refine ITri.reg pokT ?_; simp -implicitDefEqProofs (disch := first | decide | exact of_eq_true (eq_true rfl) | omega | assumption) only [ ↓vcD, vcE, evs, evP, evB, intsOf, fillC, Value.cells, pt, List.append_nil, List.nil_append, List.cons_append, List.length_cons, List.length_nil, List.filter_nil, List.map_nil, ↓List.getElem?_cons_zero, ↓List.getElem?_cons_succ, List.getElem?_cons_zero, List.getElem?_cons_succ, List.set_cons_zero, List.set_cons_succ, Option.join_some, Option.join_none, Option.map_some, List.all_cons, List.all_nil, Value.oneCell', reduceIte, reduceCtorEq, Nat.reduceEqDiff, Nat.reduceAdd, Nat.reduceMul, Nat.reduceLT, Nat.reduceBEq, Nat.reduceLeDiff, Nat.reduceSub, List.size_toArray]
  refine ITri.ret ?_; exact EndR.plain (vs := [pN, one]) (by simp) (by rfl) (by rfl) (by rfl)
theorem findT_f (a b : Int) {h : AH} (hs : h.sees 0 = true) : Fc Try.prog 110 [pN, .func (.func 111) #[] #[], .int .i64 a, .int .i64 b] h (.tuple #[pN, one]) h := by
  refine Fc.lift0 ?_ rfl rfl hs
  refine Fc.intro0 fn110 (by simp) rfl rfl ?_; simp only [argF]
  refine ITri.seq ?_
  refine ITri.reg pokT ?_; simp -implicitDefEqProofs (disch := first | decide | exact of_eq_true (eq_true rfl) | omega | assumption) only [ ↓vcD, vcE, evs, evP, evB, intsOf, fillC, Value.cells, pt, List.append_nil, List.nil_append, List.cons_append, List.length_cons, List.length_nil, List.filter_nil, List.map_nil, ↓List.getElem?_cons_zero, ↓List.getElem?_cons_succ, List.getElem?_cons_zero, List.getElem?_cons_succ, List.set_cons_zero, List.set_cons_succ, Option.join_some, Option.join_none, Option.map_some, List.all_cons, List.all_nil, Value.oneCell', reduceIte, reduceCtorEq, Nat.reduceEqDiff, Nat.reduceAdd, Nat.reduceMul, Nat.reduceLT, Nat.reduceBEq, Nat.reduceLeDiff, Nat.reduceSub, List.size_toArray]
  refine ITri.seq ?_
  refine ITri.seq ?_
  refine ITri.reg pokT ?_; simp -implicitDefEqProofs (disch := first | decide | exact of_eq_true (eq_true rfl) | omega | assumption) only [ ↓vcD, vcE, evs, evP, evB, intsOf, fillC, Value.cells, pt, List.append_nil, List.nil_append, List.cons_append, List.length_cons, List.length_nil, List.filter_nil, List.map_nil, ↓List.getElem?_cons_zero, ↓List.getElem?_cons_succ, List.getElem?_cons_zero, List.getElem?_cons_succ, List.set_cons_zero, List.set_cons_succ, Option.join_some, Option.join_none, Option.map_some, List.all_cons, List.all_nil, Value.oneCell', reduceIte, reduceCtorEq, Nat.reduceEqDiff, Nat.reduceAdd, Nat.reduceMul, Nat.reduceLT, Nat.reduceBEq, Nat.reduceLeDiff, Nat.reduceSub, List.size_toArray]
  refine gen_nil rfl (by kernel_rfl) ?_
  try simp -implicitDefEqProofs (disch := first | decide | exact of_eq_true (eq_true rfl) | omega | assumption) only [ ↓vcD, vcE, evs, evP, evB, intsOf, fillC, Value.cells, pt, List.append_nil, List.nil_append, List.cons_append, List.length_cons, List.length_nil, List.filter_nil, List.map_nil, ↓List.getElem?_cons_zero, ↓List.getElem?_cons_succ, List.getElem?_cons_zero, List.getElem?_cons_succ, List.set_cons_zero, List.set_cons_succ, Option.join_some, Option.join_none, Option.map_some, List.all_cons, List.all_nil, Value.oneCell', reduceIte, reduceCtorEq, Nat.reduceEqDiff, Nat.reduceAdd, Nat.reduceMul, Nat.reduceLT, Nat.reduceBEq, Nat.reduceLeDiff, Nat.reduceSub, List.size_toArray]
  refine ITri.cond (v := true) rfl (fun _ => ?_) (fun h => by cases h)
  refine ITri.seq ?_
  refine ITri.reg pokT ?_; simp -implicitDefEqProofs (disch := first | decide | exact of_eq_true (eq_true rfl) | omega | assumption) only [ ↓vcD, vcE, evs, evP, evB, intsOf, fillC, Value.cells, pt, List.append_nil, List.nil_append, List.cons_append, List.length_cons, List.length_nil, List.filter_nil, List.map_nil, ↓List.getElem?_cons_zero, ↓List.getElem?_cons_succ, List.getElem?_cons_zero, List.getElem?_cons_succ, List.set_cons_zero, List.set_cons_succ, Option.join_some, Option.join_none, Option.map_some, List.all_cons, List.all_nil, Value.oneCell', reduceIte, reduceCtorEq, Nat.reduceEqDiff, Nat.reduceAdd, Nat.reduceMul, Nat.reduceLT, Nat.reduceBEq, Nat.reduceLeDiff, Nat.reduceSub, List.size_toArray]
  refine ITri.ret ?_; exact EndR.plain (vs := [pN, one]) (by simp) (by rfl) (by rfl) (by rfl)
theorem lotN_f (a : Int) {h : AH} (hs : h.sees 0 = true) : Fc Try.prog 76 [pN, .int .i64 a] h (.tuple #[pN, one]) h := by
  refine Fc.lift0 ?_ rfl rfl hs
  refine Fc.intro0 fn76 (by simp) rfl rfl ?_; simp only [argF]
  refine ITri.seq ?_
  refine ITri.reg pokT ?_; simp -implicitDefEqProofs (disch := first | decide | exact of_eq_true (eq_true rfl) | omega | assumption) only [ ↓vcD, vcE, evs, evP, evB, intsOf, fillC, Value.cells, pt, List.append_nil, List.nil_append, List.cons_append, List.length_cons, List.length_nil, List.filter_nil, List.map_nil, ↓List.getElem?_cons_zero, ↓List.getElem?_cons_succ, List.getElem?_cons_zero, List.getElem?_cons_succ, List.set_cons_zero, List.set_cons_succ, Option.join_some, Option.join_none, Option.map_some, List.all_cons, List.all_nil, Value.oneCell', reduceIte, reduceCtorEq, Nat.reduceEqDiff, Nat.reduceAdd, Nat.reduceMul, Nat.reduceLT, Nat.reduceBEq, Nat.reduceLeDiff, Nat.reduceSub, List.size_toArray]
  refine ITri.seq ?_
  refine ITri.seq ?_
  refine ITri.reg pokT ?_; simp -implicitDefEqProofs (disch := first | decide | exact of_eq_true (eq_true rfl) | omega | assumption) only [ ↓vcD, vcE, evs, evP, evB, intsOf, fillC, Value.cells, pt, List.append_nil, List.nil_append, List.cons_append, List.length_cons, List.length_nil, List.filter_nil, List.map_nil, ↓List.getElem?_cons_zero, ↓List.getElem?_cons_succ, List.getElem?_cons_zero, List.getElem?_cons_succ, List.set_cons_zero, List.set_cons_succ, Option.join_some, Option.join_none, Option.map_some, List.all_cons, List.all_nil, Value.oneCell', reduceIte, reduceCtorEq, Nat.reduceEqDiff, Nat.reduceAdd, Nat.reduceMul, Nat.reduceLT, Nat.reduceBEq, Nat.reduceLeDiff, Nat.reduceSub, List.size_toArray]
  refine ITri.cut (fun x : Int => [(0, pN), (1, .int .i64 x)]) (fun _ => []) (fun _ => Hp 1 [none]) (fun _ => True) ?_ (fun x _ => ?_)
  · refine ITri.condD (by rfl) (fun h1 => ?_) (fun h1 => ?_)
    · refine ITri.reg pokT ?_; simp -implicitDefEqProofs (disch := first | decide | exact of_eq_true (eq_true rfl) | omega | assumption) only [ ↓vcD, vcE, evs, evP, evB, intsOf, fillC, Value.cells, pt, List.append_nil, List.nil_append, List.cons_append, List.length_cons, List.length_nil, List.filter_nil, List.map_nil, ↓List.getElem?_cons_zero, ↓List.getElem?_cons_succ, List.getElem?_cons_zero, List.getElem?_cons_succ, List.set_cons_zero, List.set_cons_succ, Option.join_some, Option.join_none, Option.map_some, List.all_cons, List.all_nil, Value.oneCell', reduceIte, reduceCtorEq, Nat.reduceEqDiff, Nat.reduceAdd, Nat.reduceMul, Nat.reduceLT, Nat.reduceBEq, Nat.reduceLeDiff, Nat.reduceSub, List.size_toArray]
      exact CutQ.mk 0 trivial (Wk.sub ⟨rfl, rfl, trivial⟩)
    · refine ITri.skip ?_
      exact CutQ.mk a trivial (Wk.sub ⟨rfl, rfl, trivial⟩)
  refine ITri.seq ?_
  refine ITri.reg pokT ?_; simp -implicitDefEqProofs (disch := first | decide | exact of_eq_true (eq_true rfl) | omega | assumption) only [ ↓vcD, vcE, evs, evP, evB, intsOf, fillC, Value.cells, pt, List.append_nil, List.nil_append, List.cons_append, List.length_cons, List.length_nil, List.filter_nil, List.map_nil, ↓List.getElem?_cons_zero, ↓List.getElem?_cons_succ, List.getElem?_cons_zero, List.getElem?_cons_succ, List.set_cons_zero, List.set_cons_succ, Option.join_some, Option.join_none, Option.map_some, List.all_cons, List.all_nil, Value.oneCell', reduceIte, reduceCtorEq, Nat.reduceEqDiff, Nat.reduceAdd, Nat.reduceMul, Nat.reduceLT, Nat.reduceBEq, Nat.reduceLeDiff, Nat.reduceSub, List.size_toArray]
  refine ⟨_, _, findL_f _ _ (sees0 rfl (of_decide_eq_true rfl)), ?_⟩
  try simp -implicitDefEqProofs (disch := first | decide | exact of_eq_true (eq_true rfl) | omega | assumption) only [ ↓vcD, vcE, evs, evP, evB, intsOf, fillC, Value.cells, pt, List.append_nil, List.nil_append, List.cons_append, List.length_cons, List.length_nil, List.filter_nil, List.map_nil, ↓List.getElem?_cons_zero, ↓List.getElem?_cons_succ, List.getElem?_cons_zero, List.getElem?_cons_succ, List.set_cons_zero, List.set_cons_succ, Option.join_some, Option.join_none, Option.map_some, List.all_cons, List.all_nil, Value.oneCell', reduceIte, reduceCtorEq, Nat.reduceEqDiff, Nat.reduceAdd, Nat.reduceMul, Nat.reduceLT, Nat.reduceBEq, Nat.reduceLeDiff, Nat.reduceSub, List.size_toArray]
  refine ITri.ret ?_; exact EndR.plain (vs := [pN, one]) (by simp) (by rfl) (by rfl) (by rfl)
theorem toolN_f (a : Int) {h : AH} (hs : h.sees 0 = true) : Fc Try.prog 77 [pN, .int .i64 a] h (.tuple #[pN, one]) h := by
  refine Fc.lift0 ?_ rfl rfl hs
  refine Fc.intro0 fn77 (by simp) rfl rfl ?_; simp only [argF]
  refine ITri.seq ?_
  refine ITri.reg pokT ?_; simp -implicitDefEqProofs (disch := first | decide | exact of_eq_true (eq_true rfl) | omega | assumption) only [ ↓vcD, vcE, evs, evP, evB, intsOf, fillC, Value.cells, pt, List.append_nil, List.nil_append, List.cons_append, List.length_cons, List.length_nil, List.filter_nil, List.map_nil, ↓List.getElem?_cons_zero, ↓List.getElem?_cons_succ, List.getElem?_cons_zero, List.getElem?_cons_succ, List.set_cons_zero, List.set_cons_succ, Option.join_some, Option.join_none, Option.map_some, List.all_cons, List.all_nil, Value.oneCell', reduceIte, reduceCtorEq, Nat.reduceEqDiff, Nat.reduceAdd, Nat.reduceMul, Nat.reduceLT, Nat.reduceBEq, Nat.reduceLeDiff, Nat.reduceSub, List.size_toArray]
  refine ITri.seq ?_
  refine ITri.reg pokT ?_; simp -implicitDefEqProofs (disch := first | decide | exact of_eq_true (eq_true rfl) | omega | assumption) only [ ↓vcD, vcE, evs, evP, evB, intsOf, fillC, Value.cells, pt, List.append_nil, List.nil_append, List.cons_append, List.length_cons, List.length_nil, List.filter_nil, List.map_nil, ↓List.getElem?_cons_zero, ↓List.getElem?_cons_succ, List.getElem?_cons_zero, List.getElem?_cons_succ, List.set_cons_zero, List.set_cons_succ, Option.join_some, Option.join_none, Option.map_some, List.all_cons, List.all_nil, Value.oneCell', reduceIte, reduceCtorEq, Nat.reduceEqDiff, Nat.reduceAdd, Nat.reduceMul, Nat.reduceLT, Nat.reduceBEq, Nat.reduceLeDiff, Nat.reduceSub, List.size_toArray]
  refine ⟨_, _, findT_f _ _ (sees0 rfl (of_decide_eq_true rfl)), ?_⟩
  try simp -implicitDefEqProofs (disch := first | decide | exact of_eq_true (eq_true rfl) | omega | assumption) only [ ↓vcD, vcE, evs, evP, evB, intsOf, fillC, Value.cells, pt, List.append_nil, List.nil_append, List.cons_append, List.length_cons, List.length_nil, List.filter_nil, List.map_nil, ↓List.getElem?_cons_zero, ↓List.getElem?_cons_succ, List.getElem?_cons_zero, List.getElem?_cons_succ, List.set_cons_zero, List.set_cons_succ, Option.join_some, Option.join_none, Option.map_some, List.all_cons, List.all_nil, Value.oneCell', reduceIte, reduceCtorEq, Nat.reduceEqDiff, Nat.reduceAdd, Nat.reduceMul, Nat.reduceLT, Nat.reduceBEq, Nat.reduceLeDiff, Nat.reduceSub, List.size_toArray]
  refine ITri.ret ?_; exact EndR.plain (vs := [pN, one]) (by simp) (by rfl) (by rfl) (by rfl)
theorem nowN_f {h : AH} (hs : h.sees 0 = true) : Fc Try.prog 29 [pN] h ((.int .i64 0)) h := by
  refine Fc.lift0 ?_ rfl rfl hs
  refine Fc.intro0 fn29 (by simp) rfl rfl ?_; simp only [argF]
  refine ITri.seq ?_
  refine ITri.reg pokT ?_; simp -implicitDefEqProofs (disch := first | decide | exact of_eq_true (eq_true rfl) | omega | assumption) only [ ↓vcD, vcE, evs, evP, evB, intsOf, fillC, Value.cells, pt, List.append_nil, List.nil_append, List.cons_append, List.length_cons, List.length_nil, List.filter_nil, List.map_nil, ↓List.getElem?_cons_zero, ↓List.getElem?_cons_succ, List.getElem?_cons_zero, List.getElem?_cons_succ, List.set_cons_zero, List.set_cons_succ, Option.join_some, Option.join_none, Option.map_some, List.all_cons, List.all_nil, Value.oneCell', reduceIte, reduceCtorEq, Nat.reduceEqDiff, Nat.reduceAdd, Nat.reduceMul, Nat.reduceLT, Nat.reduceBEq, Nat.reduceLeDiff, Nat.reduceSub, List.size_toArray]
  refine ITri.seq ?_
  refine ITri.seq ?_
  refine ITri.reg pokT ?_; simp -implicitDefEqProofs (disch := first | decide | exact of_eq_true (eq_true rfl) | omega | assumption) only [ ↓vcD, vcE, evs, evP, evB, intsOf, fillC, Value.cells, pt, List.append_nil, List.nil_append, List.cons_append, List.length_cons, List.length_nil, List.filter_nil, List.map_nil, ↓List.getElem?_cons_zero, ↓List.getElem?_cons_succ, List.getElem?_cons_zero, List.getElem?_cons_succ, List.set_cons_zero, List.set_cons_succ, Option.join_some, Option.join_none, Option.map_some, List.all_cons, List.all_nil, Value.oneCell', reduceIte, reduceCtorEq, Nat.reduceEqDiff, Nat.reduceAdd, Nat.reduceMul, Nat.reduceLT, Nat.reduceBEq, Nat.reduceLeDiff, Nat.reduceSub, List.size_toArray]
  refine gen_nil rfl (by kernel_rfl) ?_
  try simp -implicitDefEqProofs (disch := first | decide | exact of_eq_true (eq_true rfl) | omega | assumption) only [ ↓vcD, vcE, evs, evP, evB, intsOf, fillC, Value.cells, pt, List.append_nil, List.nil_append, List.cons_append, List.length_cons, List.length_nil, List.filter_nil, List.map_nil, ↓List.getElem?_cons_zero, ↓List.getElem?_cons_succ, List.getElem?_cons_zero, List.getElem?_cons_succ, List.set_cons_zero, List.set_cons_succ, Option.join_some, Option.join_none, Option.map_some, List.all_cons, List.all_nil, Value.oneCell', reduceIte, reduceCtorEq, Nat.reduceEqDiff, Nat.reduceAdd, Nat.reduceMul, Nat.reduceLT, Nat.reduceBEq, Nat.reduceLeDiff, Nat.reduceSub, List.size_toArray]
  refine ITri.cond (v := true) rfl (fun _ => ?_) (fun h => by cases h)
  refine ITri.seq ?_
  refine ITri.reg pokT ?_; simp -implicitDefEqProofs (disch := first | decide | exact of_eq_true (eq_true rfl) | omega | assumption) only [ ↓vcD, vcE, evs, evP, evB, intsOf, fillC, Value.cells, pt, List.append_nil, List.nil_append, List.cons_append, List.length_cons, List.length_nil, List.filter_nil, List.map_nil, ↓List.getElem?_cons_zero, ↓List.getElem?_cons_succ, List.getElem?_cons_zero, List.getElem?_cons_succ, List.set_cons_zero, List.set_cons_succ, Option.join_some, Option.join_none, Option.map_some, List.all_cons, List.all_nil, Value.oneCell', reduceIte, reduceCtorEq, Nat.reduceEqDiff, Nat.reduceAdd, Nat.reduceMul, Nat.reduceLT, Nat.reduceBEq, Nat.reduceLeDiff, Nat.reduceSub, List.size_toArray]
  refine ITri.ret ?_; exact EndR.plain (vs := [.int .i64 0]) (by simp) (by rfl) (by rfl) (by rfl)
theorem enterN_f {h : AH} (hs : h.sees 0 = true) : Fc Try.prog 37 [pN] h (.tuple #[.int .i64 0, one]) h := by
  refine Fc.lift0 ?_ rfl rfl hs
  refine Fc.intro0 fn37 (by simp) rfl rfl ?_; simp only [argF]
  refine ITri.seq ?_
  refine ITri.reg pokT ?_; simp -implicitDefEqProofs (disch := first | decide | exact of_eq_true (eq_true rfl) | omega | assumption) only [ ↓vcD, vcE, evs, evP, evB, intsOf, fillC, Value.cells, pt, List.append_nil, List.nil_append, List.cons_append, List.length_cons, List.length_nil, List.filter_nil, List.map_nil, ↓List.getElem?_cons_zero, ↓List.getElem?_cons_succ, List.getElem?_cons_zero, List.getElem?_cons_succ, List.set_cons_zero, List.set_cons_succ, Option.join_some, Option.join_none, Option.map_some, List.all_cons, List.all_nil, Value.oneCell', reduceIte, reduceCtorEq, Nat.reduceEqDiff, Nat.reduceAdd, Nat.reduceMul, Nat.reduceLT, Nat.reduceBEq, Nat.reduceLeDiff, Nat.reduceSub, List.size_toArray]
  refine ITri.seq ?_
  refine ITri.block ?_
  refine ITri.seq ?_
  refine ITri.reg pokT ?_; simp -implicitDefEqProofs (disch := first | decide | exact of_eq_true (eq_true rfl) | omega | assumption) only [ ↓vcD, vcE, evs, evP, evB, intsOf, fillC, Value.cells, pt, List.append_nil, List.nil_append, List.cons_append, List.length_cons, List.length_nil, List.filter_nil, List.map_nil, ↓List.getElem?_cons_zero, ↓List.getElem?_cons_succ, List.getElem?_cons_zero, List.getElem?_cons_succ, List.set_cons_zero, List.set_cons_succ, Option.join_some, Option.join_none, Option.map_some, List.all_cons, List.all_nil, Value.oneCell', reduceIte, reduceCtorEq, Nat.reduceEqDiff, Nat.reduceAdd, Nat.reduceMul, Nat.reduceLT, Nat.reduceBEq, Nat.reduceLeDiff, Nat.reduceSub, List.size_toArray]
  refine gen_nil rfl (by kernel_rfl) ?_
  try simp -implicitDefEqProofs (disch := first | decide | exact of_eq_true (eq_true rfl) | omega | assumption) only [ ↓vcD, vcE, evs, evP, evB, intsOf, fillC, Value.cells, pt, List.append_nil, List.nil_append, List.cons_append, List.length_cons, List.length_nil, List.filter_nil, List.map_nil, ↓List.getElem?_cons_zero, ↓List.getElem?_cons_succ, List.getElem?_cons_zero, List.getElem?_cons_succ, List.set_cons_zero, List.set_cons_succ, Option.join_some, Option.join_none, Option.map_some, List.all_cons, List.all_nil, Value.oneCell', reduceIte, reduceCtorEq, Nat.reduceEqDiff, Nat.reduceAdd, Nat.reduceMul, Nat.reduceLT, Nat.reduceBEq, Nat.reduceLeDiff, Nat.reduceSub, List.size_toArray]
  refine ITri.cond (v := true) rfl (fun _ => ?_) (fun h => by cases h)
  refine ITri.seq ?_
  refine ITri.reg pokT ?_; simp -implicitDefEqProofs (disch := first | decide | exact of_eq_true (eq_true rfl) | omega | assumption) only [ ↓vcD, vcE, evs, evP, evB, intsOf, fillC, Value.cells, pt, List.append_nil, List.nil_append, List.cons_append, List.length_cons, List.length_nil, List.filter_nil, List.map_nil, ↓List.getElem?_cons_zero, ↓List.getElem?_cons_succ, List.getElem?_cons_zero, List.getElem?_cons_succ, List.set_cons_zero, List.set_cons_succ, Option.join_some, Option.join_none, Option.map_some, List.all_cons, List.all_nil, Value.oneCell', reduceIte, reduceCtorEq, Nat.reduceEqDiff, Nat.reduceAdd, Nat.reduceMul, Nat.reduceLT, Nat.reduceBEq, Nat.reduceLeDiff, Nat.reduceSub, List.size_toArray]
  refine ITri.ret ?_; exact EndR.plain (vs := [.int .i64 0, one]) (by simp) (by rfl) (by rfl) (by rfl)
theorem tickN_f (a : Int) {h : AH} (hs : h.sees 0 = true) : Fc Try.prog 39 [pN, .int .i64 a] h (one) h := by
  refine Fc.lift0 ?_ rfl rfl hs
  refine Fc.intro0 fn39 (by simp) rfl rfl ?_; simp only [argF]
  refine ITri.seq ?_
  refine ITri.reg pokT ?_; simp -implicitDefEqProofs (disch := first | decide | exact of_eq_true (eq_true rfl) | omega | assumption) only [ ↓vcD, vcE, evs, evP, evB, intsOf, fillC, Value.cells, pt, List.append_nil, List.nil_append, List.cons_append, List.length_cons, List.length_nil, List.filter_nil, List.map_nil, ↓List.getElem?_cons_zero, ↓List.getElem?_cons_succ, List.getElem?_cons_zero, List.getElem?_cons_succ, List.set_cons_zero, List.set_cons_succ, Option.join_some, Option.join_none, Option.map_some, List.all_cons, List.all_nil, Value.oneCell', reduceIte, reduceCtorEq, Nat.reduceEqDiff, Nat.reduceAdd, Nat.reduceMul, Nat.reduceLT, Nat.reduceBEq, Nat.reduceLeDiff, Nat.reduceSub, List.size_toArray]
  refine ITri.seq ?_
  refine ITri.block ?_
  refine ITri.seq ?_
  refine ITri.reg pokT ?_; simp -implicitDefEqProofs (disch := first | decide | exact of_eq_true (eq_true rfl) | omega | assumption) only [ ↓vcD, vcE, evs, evP, evB, intsOf, fillC, Value.cells, pt, List.append_nil, List.nil_append, List.cons_append, List.length_cons, List.length_nil, List.filter_nil, List.map_nil, ↓List.getElem?_cons_zero, ↓List.getElem?_cons_succ, List.getElem?_cons_zero, List.getElem?_cons_succ, List.set_cons_zero, List.set_cons_succ, Option.join_some, Option.join_none, Option.map_some, List.all_cons, List.all_nil, Value.oneCell', reduceIte, reduceCtorEq, Nat.reduceEqDiff, Nat.reduceAdd, Nat.reduceMul, Nat.reduceLT, Nat.reduceBEq, Nat.reduceLeDiff, Nat.reduceSub, List.size_toArray]
  refine gen_nil rfl (by kernel_rfl) ?_
  try simp -implicitDefEqProofs (disch := first | decide | exact of_eq_true (eq_true rfl) | omega | assumption) only [ ↓vcD, vcE, evs, evP, evB, intsOf, fillC, Value.cells, pt, List.append_nil, List.nil_append, List.cons_append, List.length_cons, List.length_nil, List.filter_nil, List.map_nil, ↓List.getElem?_cons_zero, ↓List.getElem?_cons_succ, List.getElem?_cons_zero, List.getElem?_cons_succ, List.set_cons_zero, List.set_cons_succ, Option.join_some, Option.join_none, Option.map_some, List.all_cons, List.all_nil, Value.oneCell', reduceIte, reduceCtorEq, Nat.reduceEqDiff, Nat.reduceAdd, Nat.reduceMul, Nat.reduceLT, Nat.reduceBEq, Nat.reduceLeDiff, Nat.reduceSub, List.size_toArray]
  refine ITri.cond (v := true) rfl (fun _ => ?_) (fun h => by cases h)
  refine ITri.seq ?_
  refine ITri.reg pokT ?_; simp -implicitDefEqProofs (disch := first | decide | exact of_eq_true (eq_true rfl) | omega | assumption) only [ ↓vcD, vcE, evs, evP, evB, intsOf, fillC, Value.cells, pt, List.append_nil, List.nil_append, List.cons_append, List.length_cons, List.length_nil, List.filter_nil, List.map_nil, ↓List.getElem?_cons_zero, ↓List.getElem?_cons_succ, List.getElem?_cons_zero, List.getElem?_cons_succ, List.set_cons_zero, List.set_cons_succ, Option.join_some, Option.join_none, Option.map_some, List.all_cons, List.all_nil, Value.oneCell', reduceIte, reduceCtorEq, Nat.reduceEqDiff, Nat.reduceAdd, Nat.reduceMul, Nat.reduceLT, Nat.reduceBEq, Nat.reduceLeDiff, Nat.reduceSub, List.size_toArray]
  refine ITri.ret ?_; exact EndR.plain (vs := [one]) (by simp) (by rfl) (by rfl) (by rfl)
theorem startN_f {n : Nat} {xs : List Int} {s : Value} (a b : Int) {h : AH} (h0 : h.sees 0 = true) (r : Rd h s n (rows eN xs)) : Fc Try.prog 38 [pN, .int .i64 a, .int .i64 b, s] h (one) h := by
  refine Fc.lift1 (mk := fun ss => [pN, .int .i64 a, .int .i64 b] ++ ss ++ []) (mkv := fun _ => one) (os := []) (fun c => ?_) (MkL.mid rfl rfl) (MkV.const rfl) (rows_no (f := eN) xs) (fun o ho => by cases ho) h0 r
  show Fc Try.prog 38 [pN, .int .i64 a, .int .i64 b, .slice (some ⟨1, 0, none⟩) n c] (Hp 2 [none, some (.cells ⟨rows eN xs, 0, false⟩)]) (one) (Hp 2 [none, some (.cells ⟨rows eN xs, 0, false⟩)])
  refine Fc.intro0 fn38 (by simp) rfl rfl ?_; simp only [argF]
  refine ITri.seq ?_
  refine ITri.reg pokT ?_; simp -implicitDefEqProofs (disch := first | decide | exact of_eq_true (eq_true rfl) | omega | assumption) only [ ↓vcD, vcE, evs, evP, evB, intsOf, fillC, Value.cells, pt, List.append_nil, List.nil_append, List.cons_append, List.length_cons, List.length_nil, List.filter_nil, List.map_nil, ↓List.getElem?_cons_zero, ↓List.getElem?_cons_succ, List.getElem?_cons_zero, List.getElem?_cons_succ, List.set_cons_zero, List.set_cons_succ, Option.join_some, Option.join_none, Option.map_some, List.all_cons, List.all_nil, Value.oneCell', reduceIte, reduceCtorEq, Nat.reduceEqDiff, Nat.reduceAdd, Nat.reduceMul, Nat.reduceLT, Nat.reduceBEq, Nat.reduceLeDiff, Nat.reduceSub, List.size_toArray]
  refine ITri.seq ?_
  refine ITri.reg pokT ?_; simp -implicitDefEqProofs (disch := first | decide | exact of_eq_true (eq_true rfl) | omega | assumption) only [ ↓vcD, vcE, evs, evP, evB, intsOf, fillC, Value.cells, pt, List.append_nil, List.nil_append, List.cons_append, List.length_cons, List.length_nil, List.filter_nil, List.map_nil, ↓List.getElem?_cons_zero, ↓List.getElem?_cons_succ, List.getElem?_cons_zero, List.getElem?_cons_succ, List.set_cons_zero, List.set_cons_succ, Option.join_some, Option.join_none, Option.map_some, List.all_cons, List.all_nil, Value.oneCell', reduceIte, reduceCtorEq, Nat.reduceEqDiff, Nat.reduceAdd, Nat.reduceMul, Nat.reduceLT, Nat.reduceBEq, Nat.reduceLeDiff, Nat.reduceSub, List.size_toArray]
  refine ⟨_, _, toolN_f _ (sees0 rfl (of_decide_eq_true rfl)), ?_⟩
  try simp -implicitDefEqProofs (disch := first | decide | exact of_eq_true (eq_true rfl) | omega | assumption) only [ ↓vcD, vcE, evs, evP, evB, intsOf, fillC, Value.cells, pt, List.append_nil, List.nil_append, List.cons_append, List.length_cons, List.length_nil, List.filter_nil, List.map_nil, ↓List.getElem?_cons_zero, ↓List.getElem?_cons_succ, List.getElem?_cons_zero, List.getElem?_cons_succ, List.set_cons_zero, List.set_cons_succ, Option.join_some, Option.join_none, Option.map_some, List.all_cons, List.all_nil, Value.oneCell', reduceIte, reduceCtorEq, Nat.reduceEqDiff, Nat.reduceAdd, Nat.reduceMul, Nat.reduceLT, Nat.reduceBEq, Nat.reduceLeDiff, Nat.reduceSub, List.size_toArray]
  refine ITri.seq ?_
  refine ITri.seq ?_
  refine ITri.reg pokT ?_; simp -implicitDefEqProofs (disch := first | decide | exact of_eq_true (eq_true rfl) | omega | assumption) only [ ↓vcD, vcE, evs, evP, evB, intsOf, fillC, Value.cells, pt, List.append_nil, List.nil_append, List.cons_append, List.length_cons, List.length_nil, List.filter_nil, List.map_nil, ↓List.getElem?_cons_zero, ↓List.getElem?_cons_succ, List.getElem?_cons_zero, List.getElem?_cons_succ, List.set_cons_zero, List.set_cons_succ, Option.join_some, Option.join_none, Option.map_some, List.all_cons, List.all_nil, Value.oneCell', reduceIte, reduceCtorEq, Nat.reduceEqDiff, Nat.reduceAdd, Nat.reduceMul, Nat.reduceLT, Nat.reduceBEq, Nat.reduceLeDiff, Nat.reduceSub, List.size_toArray]
  refine ITri.cond (v := true) rfl (fun _ => ?_) (fun h => by cases h)
  refine ITri.seq ?_
  refine ITri.reg pokT ?_; simp -implicitDefEqProofs (disch := first | decide | exact of_eq_true (eq_true rfl) | omega | assumption) only [ ↓vcD, vcE, evs, evP, evB, intsOf, fillC, Value.cells, pt, List.append_nil, List.nil_append, List.cons_append, List.length_cons, List.length_nil, List.filter_nil, List.map_nil, ↓List.getElem?_cons_zero, ↓List.getElem?_cons_succ, List.getElem?_cons_zero, List.getElem?_cons_succ, List.set_cons_zero, List.set_cons_succ, Option.join_some, Option.join_none, Option.map_some, List.all_cons, List.all_nil, Value.oneCell', reduceIte, reduceCtorEq, Nat.reduceEqDiff, Nat.reduceAdd, Nat.reduceMul, Nat.reduceLT, Nat.reduceBEq, Nat.reduceLeDiff, Nat.reduceSub, List.size_toArray]
  refine ITri.ret ?_; exact EndR.plain (vs := [one]) (by simp) (by rfl) (by rfl) (by rfl)
theorem abortN_f (a : Int) {h : AH} (hs : h.sees 0 = true) : Fc Try.prog 65 [pN, .int .i64 a] h (one) h := by
  refine Fc.lift0 ?_ rfl rfl hs
  refine Fc.intro0 fn65 (by simp) rfl rfl ?_; simp only [argF]
  refine ITri.seq ?_
  refine ITri.reg pokT ?_; simp -implicitDefEqProofs (disch := first | decide | exact of_eq_true (eq_true rfl) | omega | assumption) only [ ↓vcD, vcE, evs, evP, evB, intsOf, fillC, Value.cells, pt, List.append_nil, List.nil_append, List.cons_append, List.length_cons, List.length_nil, List.filter_nil, List.map_nil, ↓List.getElem?_cons_zero, ↓List.getElem?_cons_succ, List.getElem?_cons_zero, List.getElem?_cons_succ, List.set_cons_zero, List.set_cons_succ, Option.join_some, Option.join_none, Option.map_some, List.all_cons, List.all_nil, Value.oneCell', reduceIte, reduceCtorEq, Nat.reduceEqDiff, Nat.reduceAdd, Nat.reduceMul, Nat.reduceLT, Nat.reduceBEq, Nat.reduceLeDiff, Nat.reduceSub, List.size_toArray]
  refine ITri.seq ?_
  refine ITri.reg pokT ?_; simp -implicitDefEqProofs (disch := first | decide | exact of_eq_true (eq_true rfl) | omega | assumption) only [ ↓vcD, vcE, evs, evP, evB, intsOf, fillC, Value.cells, pt, List.append_nil, List.nil_append, List.cons_append, List.length_cons, List.length_nil, List.filter_nil, List.map_nil, ↓List.getElem?_cons_zero, ↓List.getElem?_cons_succ, List.getElem?_cons_zero, List.getElem?_cons_succ, List.set_cons_zero, List.set_cons_succ, Option.join_some, Option.join_none, Option.map_some, List.all_cons, List.all_nil, Value.oneCell', reduceIte, reduceCtorEq, Nat.reduceEqDiff, Nat.reduceAdd, Nat.reduceMul, Nat.reduceLT, Nat.reduceBEq, Nat.reduceLeDiff, Nat.reduceSub, List.size_toArray]
  refine ⟨_, _, toolN_f _ (sees0 rfl (of_decide_eq_true rfl)), ?_⟩
  try simp -implicitDefEqProofs (disch := first | decide | exact of_eq_true (eq_true rfl) | omega | assumption) only [ ↓vcD, vcE, evs, evP, evB, intsOf, fillC, Value.cells, pt, List.append_nil, List.nil_append, List.cons_append, List.length_cons, List.length_nil, List.filter_nil, List.map_nil, ↓List.getElem?_cons_zero, ↓List.getElem?_cons_succ, List.getElem?_cons_zero, List.getElem?_cons_succ, List.set_cons_zero, List.set_cons_succ, Option.join_some, Option.join_none, Option.map_some, List.all_cons, List.all_nil, Value.oneCell', reduceIte, reduceCtorEq, Nat.reduceEqDiff, Nat.reduceAdd, Nat.reduceMul, Nat.reduceLT, Nat.reduceBEq, Nat.reduceLeDiff, Nat.reduceSub, List.size_toArray]
  refine ITri.seq ?_
  refine ITri.block ?_
  refine ITri.seq ?_
  refine ITri.reg pokT ?_; simp -implicitDefEqProofs (disch := first | decide | exact of_eq_true (eq_true rfl) | omega | assumption) only [ ↓vcD, vcE, evs, evP, evB, intsOf, fillC, Value.cells, pt, List.append_nil, List.nil_append, List.cons_append, List.length_cons, List.length_nil, List.filter_nil, List.map_nil, ↓List.getElem?_cons_zero, ↓List.getElem?_cons_succ, List.getElem?_cons_zero, List.getElem?_cons_succ, List.set_cons_zero, List.set_cons_succ, Option.join_some, Option.join_none, Option.map_some, List.all_cons, List.all_nil, Value.oneCell', reduceIte, reduceCtorEq, Nat.reduceEqDiff, Nat.reduceAdd, Nat.reduceMul, Nat.reduceLT, Nat.reduceBEq, Nat.reduceLeDiff, Nat.reduceSub, List.size_toArray]
  refine ITri.cond (v := true) rfl (fun _ => ?_) (fun h => by cases h)
  refine ITri.seq ?_
  refine ITri.reg pokT ?_; simp -implicitDefEqProofs (disch := first | decide | exact of_eq_true (eq_true rfl) | omega | assumption) only [ ↓vcD, vcE, evs, evP, evB, intsOf, fillC, Value.cells, pt, List.append_nil, List.nil_append, List.cons_append, List.length_cons, List.length_nil, List.filter_nil, List.map_nil, ↓List.getElem?_cons_zero, ↓List.getElem?_cons_succ, List.getElem?_cons_zero, List.getElem?_cons_succ, List.set_cons_zero, List.set_cons_succ, Option.join_some, Option.join_none, Option.map_some, List.all_cons, List.all_nil, Value.oneCell', reduceIte, reduceCtorEq, Nat.reduceEqDiff, Nat.reduceAdd, Nat.reduceMul, Nat.reduceLT, Nat.reduceBEq, Nat.reduceLeDiff, Nat.reduceSub, List.size_toArray]
  refine ITri.ret ?_; exact EndR.plain (vs := [one]) (by simp) (by rfl) (by rfl) (by rfl)
theorem measN_f (a b : Int) {h : AH} (hs : h.sees 0 = true) : Fc Try.prog 40 [pN, .int .i64 a, .int .i64 b] h (.tuple #[.bool false, one]) h := by
  have hr : (aRun Try.prog noHook 100000 50).fn 40 [pN, .int .i64 a, .int .i64 b] (Hp 1 [none]) = some (.tuple #[.bool false, one], Hp 1 [none]) := by kernel_rfl
  have F := Fc.of_run (aRun_ok t_mixed t_names noHook_ok 100000 50) hr
  exact Fc.lift0 F rfl rfl hs
theorem holdN_f (a b : Int) {h : AH} (hs : h.sees 0 = true) : Fc Try.prog 68 [pN, .int .i64 a, .int .i64 b] h (one) h := by
  refine Fc.lift0 ?_ rfl rfl hs
  refine Fc.intro0 fn68 (by simp) rfl rfl ?_; simp only [argF]
  refine ITri.seq ?_
  refine ITri.reg pokT ?_; simp -implicitDefEqProofs (disch := first | decide | exact of_eq_true (eq_true rfl) | omega | assumption) only [ ↓vcD, vcE, evs, evP, evB, intsOf, fillC, Value.cells, pt, List.append_nil, List.nil_append, List.cons_append, List.length_cons, List.length_nil, List.filter_nil, List.map_nil, ↓List.getElem?_cons_zero, ↓List.getElem?_cons_succ, List.getElem?_cons_zero, List.getElem?_cons_succ, List.set_cons_zero, List.set_cons_succ, Option.join_some, Option.join_none, Option.map_some, List.all_cons, List.all_nil, Value.oneCell', reduceIte, reduceCtorEq, Nat.reduceEqDiff, Nat.reduceAdd, Nat.reduceMul, Nat.reduceLT, Nat.reduceBEq, Nat.reduceLeDiff, Nat.reduceSub, List.size_toArray]
  refine ITri.seq ?_
  refine ITri.reg pokT ?_; simp -implicitDefEqProofs (disch := first | decide | exact of_eq_true (eq_true rfl) | omega | assumption) only [ ↓vcD, vcE, evs, evP, evB, intsOf, fillC, Value.cells, pt, List.append_nil, List.nil_append, List.cons_append, List.length_cons, List.length_nil, List.filter_nil, List.map_nil, ↓List.getElem?_cons_zero, ↓List.getElem?_cons_succ, List.getElem?_cons_zero, List.getElem?_cons_succ, List.set_cons_zero, List.set_cons_succ, Option.join_some, Option.join_none, Option.map_some, List.all_cons, List.all_nil, Value.oneCell', reduceIte, reduceCtorEq, Nat.reduceEqDiff, Nat.reduceAdd, Nat.reduceMul, Nat.reduceLT, Nat.reduceBEq, Nat.reduceLeDiff, Nat.reduceSub, List.size_toArray]
  refine ⟨_, _, lotN_f _ (sees0 rfl (of_decide_eq_true rfl)), ?_⟩
  try simp -implicitDefEqProofs (disch := first | decide | exact of_eq_true (eq_true rfl) | omega | assumption) only [ ↓vcD, vcE, evs, evP, evB, intsOf, fillC, Value.cells, pt, List.append_nil, List.nil_append, List.cons_append, List.length_cons, List.length_nil, List.filter_nil, List.map_nil, ↓List.getElem?_cons_zero, ↓List.getElem?_cons_succ, List.getElem?_cons_zero, List.getElem?_cons_succ, List.set_cons_zero, List.set_cons_succ, Option.join_some, Option.join_none, Option.map_some, List.all_cons, List.all_nil, Value.oneCell', reduceIte, reduceCtorEq, Nat.reduceEqDiff, Nat.reduceAdd, Nat.reduceMul, Nat.reduceLT, Nat.reduceBEq, Nat.reduceLeDiff, Nat.reduceSub, List.size_toArray]
  refine ITri.seq ?_
  refine ITri.block ?_
  refine ITri.seq ?_
  refine ITri.reg pokT ?_; simp -implicitDefEqProofs (disch := first | decide | exact of_eq_true (eq_true rfl) | omega | assumption) only [ ↓vcD, vcE, evs, evP, evB, intsOf, fillC, Value.cells, pt, List.append_nil, List.nil_append, List.cons_append, List.length_cons, List.length_nil, List.filter_nil, List.map_nil, ↓List.getElem?_cons_zero, ↓List.getElem?_cons_succ, List.getElem?_cons_zero, List.getElem?_cons_succ, List.set_cons_zero, List.set_cons_succ, Option.join_some, Option.join_none, Option.map_some, List.all_cons, List.all_nil, Value.oneCell', reduceIte, reduceCtorEq, Nat.reduceEqDiff, Nat.reduceAdd, Nat.reduceMul, Nat.reduceLT, Nat.reduceBEq, Nat.reduceLeDiff, Nat.reduceSub, List.size_toArray]
  refine ITri.cond (v := true) rfl (fun _ => ?_) (fun h => by cases h)
  refine ITri.seq ?_
  refine ITri.reg pokT ?_; simp -implicitDefEqProofs (disch := first | decide | exact of_eq_true (eq_true rfl) | omega | assumption) only [ ↓vcD, vcE, evs, evP, evB, intsOf, fillC, Value.cells, pt, List.append_nil, List.nil_append, List.cons_append, List.length_cons, List.length_nil, List.filter_nil, List.map_nil, ↓List.getElem?_cons_zero, ↓List.getElem?_cons_succ, List.getElem?_cons_zero, List.getElem?_cons_succ, List.set_cons_zero, List.set_cons_succ, Option.join_some, Option.join_none, Option.map_some, List.all_cons, List.all_nil, Value.oneCell', reduceIte, reduceCtorEq, Nat.reduceEqDiff, Nat.reduceAdd, Nat.reduceMul, Nat.reduceLT, Nat.reduceBEq, Nat.reduceLeDiff, Nat.reduceSub, List.size_toArray]
  refine ITri.ret ?_; exact EndR.plain (vs := [one]) (by simp) (by rfl) (by rfl) (by rfl)
theorem signN_f (a b : Int) {h : AH} (hs : h.sees 0 = true) : Fc Try.prog 70 [pN, .int .i64 a, .int .i64 b] h (.tuple #[.bool false, one]) h := by
  refine Fc.lift0 ?_ rfl rfl hs
  refine Fc.intro0 fn70 (by simp) rfl rfl ?_; simp only [argF]
  refine ITri.seq ?_
  refine ITri.reg pokT ?_; simp -implicitDefEqProofs (disch := first | decide | exact of_eq_true (eq_true rfl) | omega | assumption) only [ ↓vcD, vcE, evs, evP, evB, intsOf, fillC, Value.cells, pt, List.append_nil, List.nil_append, List.cons_append, List.length_cons, List.length_nil, List.filter_nil, List.map_nil, ↓List.getElem?_cons_zero, ↓List.getElem?_cons_succ, List.getElem?_cons_zero, List.getElem?_cons_succ, List.set_cons_zero, List.set_cons_succ, Option.join_some, Option.join_none, Option.map_some, List.all_cons, List.all_nil, Value.oneCell', reduceIte, reduceCtorEq, Nat.reduceEqDiff, Nat.reduceAdd, Nat.reduceMul, Nat.reduceLT, Nat.reduceBEq, Nat.reduceLeDiff, Nat.reduceSub, List.size_toArray]
  refine ITri.seq ?_
  refine ITri.reg pokT ?_; simp -implicitDefEqProofs (disch := first | decide | exact of_eq_true (eq_true rfl) | omega | assumption) only [ ↓vcD, vcE, evs, evP, evB, intsOf, fillC, Value.cells, pt, List.append_nil, List.nil_append, List.cons_append, List.length_cons, List.length_nil, List.filter_nil, List.map_nil, ↓List.getElem?_cons_zero, ↓List.getElem?_cons_succ, List.getElem?_cons_zero, List.getElem?_cons_succ, List.set_cons_zero, List.set_cons_succ, Option.join_some, Option.join_none, Option.map_some, List.all_cons, List.all_nil, Value.oneCell', reduceIte, reduceCtorEq, Nat.reduceEqDiff, Nat.reduceAdd, Nat.reduceMul, Nat.reduceLT, Nat.reduceBEq, Nat.reduceLeDiff, Nat.reduceSub, List.size_toArray]
  refine ⟨_, _, lotN_f _ (sees0 rfl (of_decide_eq_true rfl)), ?_⟩
  try simp -implicitDefEqProofs (disch := first | decide | exact of_eq_true (eq_true rfl) | omega | assumption) only [ ↓vcD, vcE, evs, evP, evB, intsOf, fillC, Value.cells, pt, List.append_nil, List.nil_append, List.cons_append, List.length_cons, List.length_nil, List.filter_nil, List.map_nil, ↓List.getElem?_cons_zero, ↓List.getElem?_cons_succ, List.getElem?_cons_zero, List.getElem?_cons_succ, List.set_cons_zero, List.set_cons_succ, Option.join_some, Option.join_none, Option.map_some, List.all_cons, List.all_nil, Value.oneCell', reduceIte, reduceCtorEq, Nat.reduceEqDiff, Nat.reduceAdd, Nat.reduceMul, Nat.reduceLT, Nat.reduceBEq, Nat.reduceLeDiff, Nat.reduceSub, List.size_toArray]
  refine ITri.seq ?_
  refine ITri.block ?_
  refine ITri.seq ?_
  refine ITri.reg pokT ?_; simp -implicitDefEqProofs (disch := first | decide | exact of_eq_true (eq_true rfl) | omega | assumption) only [ ↓vcD, vcE, evs, evP, evB, intsOf, fillC, Value.cells, pt, List.append_nil, List.nil_append, List.cons_append, List.length_cons, List.length_nil, List.filter_nil, List.map_nil, ↓List.getElem?_cons_zero, ↓List.getElem?_cons_succ, List.getElem?_cons_zero, List.getElem?_cons_succ, List.set_cons_zero, List.set_cons_succ, Option.join_some, Option.join_none, Option.map_some, List.all_cons, List.all_nil, Value.oneCell', reduceIte, reduceCtorEq, Nat.reduceEqDiff, Nat.reduceAdd, Nat.reduceMul, Nat.reduceLT, Nat.reduceBEq, Nat.reduceLeDiff, Nat.reduceSub, List.size_toArray]
  refine ITri.cond (v := true) rfl (fun _ => ?_) (fun h => by cases h)
  refine ITri.seq ?_
  refine ITri.reg pokT ?_; simp -implicitDefEqProofs (disch := first | decide | exact of_eq_true (eq_true rfl) | omega | assumption) only [ ↓vcD, vcE, evs, evP, evB, intsOf, fillC, Value.cells, pt, List.append_nil, List.nil_append, List.cons_append, List.length_cons, List.length_nil, List.filter_nil, List.map_nil, ↓List.getElem?_cons_zero, ↓List.getElem?_cons_succ, List.getElem?_cons_zero, List.getElem?_cons_succ, List.set_cons_zero, List.set_cons_succ, Option.join_some, Option.join_none, Option.map_some, List.all_cons, List.all_nil, Value.oneCell', reduceIte, reduceCtorEq, Nat.reduceEqDiff, Nat.reduceAdd, Nat.reduceMul, Nat.reduceLT, Nat.reduceBEq, Nat.reduceLeDiff, Nat.reduceSub, List.size_toArray]
  refine ITri.ret ?_; exact EndR.plain (vs := [.bool false, one]) (by simp) (by rfl) (by rfl) (by rfl)
theorem signTN_f (a b : Int) {h : AH} (hs : h.sees 0 = true) : Fc Try.prog 72 [pN, .int .i64 a, .int .i64 b] h (.tuple #[.bool false, one]) h := by
  refine Fc.lift0 ?_ rfl rfl hs
  refine Fc.intro0 fn72 (by simp) rfl rfl ?_; simp only [argF]
  refine ITri.seq ?_
  refine ITri.reg pokT ?_; simp -implicitDefEqProofs (disch := first | decide | exact of_eq_true (eq_true rfl) | omega | assumption) only [ ↓vcD, vcE, evs, evP, evB, intsOf, fillC, Value.cells, pt, List.append_nil, List.nil_append, List.cons_append, List.length_cons, List.length_nil, List.filter_nil, List.map_nil, ↓List.getElem?_cons_zero, ↓List.getElem?_cons_succ, List.getElem?_cons_zero, List.getElem?_cons_succ, List.set_cons_zero, List.set_cons_succ, Option.join_some, Option.join_none, Option.map_some, List.all_cons, List.all_nil, Value.oneCell', reduceIte, reduceCtorEq, Nat.reduceEqDiff, Nat.reduceAdd, Nat.reduceMul, Nat.reduceLT, Nat.reduceBEq, Nat.reduceLeDiff, Nat.reduceSub, List.size_toArray]
  refine ITri.seq ?_
  refine ITri.reg pokT ?_; simp -implicitDefEqProofs (disch := first | decide | exact of_eq_true (eq_true rfl) | omega | assumption) only [ ↓vcD, vcE, evs, evP, evB, intsOf, fillC, Value.cells, pt, List.append_nil, List.nil_append, List.cons_append, List.length_cons, List.length_nil, List.filter_nil, List.map_nil, ↓List.getElem?_cons_zero, ↓List.getElem?_cons_succ, List.getElem?_cons_zero, List.getElem?_cons_succ, List.set_cons_zero, List.set_cons_succ, Option.join_some, Option.join_none, Option.map_some, List.all_cons, List.all_nil, Value.oneCell', reduceIte, reduceCtorEq, Nat.reduceEqDiff, Nat.reduceAdd, Nat.reduceMul, Nat.reduceLT, Nat.reduceBEq, Nat.reduceLeDiff, Nat.reduceSub, List.size_toArray]
  refine ⟨_, _, toolN_f _ (sees0 rfl (of_decide_eq_true rfl)), ?_⟩
  try simp -implicitDefEqProofs (disch := first | decide | exact of_eq_true (eq_true rfl) | omega | assumption) only [ ↓vcD, vcE, evs, evP, evB, intsOf, fillC, Value.cells, pt, List.append_nil, List.nil_append, List.cons_append, List.length_cons, List.length_nil, List.filter_nil, List.map_nil, ↓List.getElem?_cons_zero, ↓List.getElem?_cons_succ, List.getElem?_cons_zero, List.getElem?_cons_succ, List.set_cons_zero, List.set_cons_succ, Option.join_some, Option.join_none, Option.map_some, List.all_cons, List.all_nil, Value.oneCell', reduceIte, reduceCtorEq, Nat.reduceEqDiff, Nat.reduceAdd, Nat.reduceMul, Nat.reduceLT, Nat.reduceBEq, Nat.reduceLeDiff, Nat.reduceSub, List.size_toArray]
  refine ITri.seq ?_
  refine ITri.block ?_
  refine ITri.seq ?_
  refine ITri.reg pokT ?_; simp -implicitDefEqProofs (disch := first | decide | exact of_eq_true (eq_true rfl) | omega | assumption) only [ ↓vcD, vcE, evs, evP, evB, intsOf, fillC, Value.cells, pt, List.append_nil, List.nil_append, List.cons_append, List.length_cons, List.length_nil, List.filter_nil, List.map_nil, ↓List.getElem?_cons_zero, ↓List.getElem?_cons_succ, List.getElem?_cons_zero, List.getElem?_cons_succ, List.set_cons_zero, List.set_cons_succ, Option.join_some, Option.join_none, Option.map_some, List.all_cons, List.all_nil, Value.oneCell', reduceIte, reduceCtorEq, Nat.reduceEqDiff, Nat.reduceAdd, Nat.reduceMul, Nat.reduceLT, Nat.reduceBEq, Nat.reduceLeDiff, Nat.reduceSub, List.size_toArray]
  refine ITri.cond (v := true) rfl (fun _ => ?_) (fun h => by cases h)
  refine ITri.seq ?_
  refine ITri.reg pokT ?_; simp -implicitDefEqProofs (disch := first | decide | exact of_eq_true (eq_true rfl) | omega | assumption) only [ ↓vcD, vcE, evs, evP, evB, intsOf, fillC, Value.cells, pt, List.append_nil, List.nil_append, List.cons_append, List.length_cons, List.length_nil, List.filter_nil, List.map_nil, ↓List.getElem?_cons_zero, ↓List.getElem?_cons_succ, List.getElem?_cons_zero, List.getElem?_cons_succ, List.set_cons_zero, List.set_cons_succ, Option.join_some, Option.join_none, Option.map_some, List.all_cons, List.all_nil, Value.oneCell', reduceIte, reduceCtorEq, Nat.reduceEqDiff, Nat.reduceAdd, Nat.reduceMul, Nat.reduceLT, Nat.reduceBEq, Nat.reduceLeDiff, Nat.reduceSub, List.size_toArray]
  refine ITri.ret ?_; exact EndR.plain (vs := [.bool false, one]) (by simp) (by rfl) (by rfl) (by rfl)
theorem servN_f (a : Int) {h : AH} (hs : h.sees 0 = true) : Fc Try.prog 74 [pN, .int .i64 a] h (one) h := by
  refine Fc.lift0 ?_ rfl rfl hs
  refine Fc.intro0 fn74 (by simp) rfl rfl ?_; simp only [argF]
  refine ITri.seq ?_
  refine ITri.reg pokT ?_; simp -implicitDefEqProofs (disch := first | decide | exact of_eq_true (eq_true rfl) | omega | assumption) only [ ↓vcD, vcE, evs, evP, evB, intsOf, fillC, Value.cells, pt, List.append_nil, List.nil_append, List.cons_append, List.length_cons, List.length_nil, List.filter_nil, List.map_nil, ↓List.getElem?_cons_zero, ↓List.getElem?_cons_succ, List.getElem?_cons_zero, List.getElem?_cons_succ, List.set_cons_zero, List.set_cons_succ, Option.join_some, Option.join_none, Option.map_some, List.all_cons, List.all_nil, Value.oneCell', reduceIte, reduceCtorEq, Nat.reduceEqDiff, Nat.reduceAdd, Nat.reduceMul, Nat.reduceLT, Nat.reduceBEq, Nat.reduceLeDiff, Nat.reduceSub, List.size_toArray]
  refine ITri.seq ?_
  refine ITri.reg pokT ?_; simp -implicitDefEqProofs (disch := first | decide | exact of_eq_true (eq_true rfl) | omega | assumption) only [ ↓vcD, vcE, evs, evP, evB, intsOf, fillC, Value.cells, pt, List.append_nil, List.nil_append, List.cons_append, List.length_cons, List.length_nil, List.filter_nil, List.map_nil, ↓List.getElem?_cons_zero, ↓List.getElem?_cons_succ, List.getElem?_cons_zero, List.getElem?_cons_succ, List.set_cons_zero, List.set_cons_succ, Option.join_some, Option.join_none, Option.map_some, List.all_cons, List.all_nil, Value.oneCell', reduceIte, reduceCtorEq, Nat.reduceEqDiff, Nat.reduceAdd, Nat.reduceMul, Nat.reduceLT, Nat.reduceBEq, Nat.reduceLeDiff, Nat.reduceSub, List.size_toArray]
  refine ⟨_, _, toolN_f _ (sees0 rfl (of_decide_eq_true rfl)), ?_⟩
  try simp -implicitDefEqProofs (disch := first | decide | exact of_eq_true (eq_true rfl) | omega | assumption) only [ ↓vcD, vcE, evs, evP, evB, intsOf, fillC, Value.cells, pt, List.append_nil, List.nil_append, List.cons_append, List.length_cons, List.length_nil, List.filter_nil, List.map_nil, ↓List.getElem?_cons_zero, ↓List.getElem?_cons_succ, List.getElem?_cons_zero, List.getElem?_cons_succ, List.set_cons_zero, List.set_cons_succ, Option.join_some, Option.join_none, Option.map_some, List.all_cons, List.all_nil, Value.oneCell', reduceIte, reduceCtorEq, Nat.reduceEqDiff, Nat.reduceAdd, Nat.reduceMul, Nat.reduceLT, Nat.reduceBEq, Nat.reduceLeDiff, Nat.reduceSub, List.size_toArray]
  refine ITri.seq ?_
  refine ITri.block ?_
  refine ITri.seq ?_
  refine ITri.reg pokT ?_; simp -implicitDefEqProofs (disch := first | decide | exact of_eq_true (eq_true rfl) | omega | assumption) only [ ↓vcD, vcE, evs, evP, evB, intsOf, fillC, Value.cells, pt, List.append_nil, List.nil_append, List.cons_append, List.length_cons, List.length_nil, List.filter_nil, List.map_nil, ↓List.getElem?_cons_zero, ↓List.getElem?_cons_succ, List.getElem?_cons_zero, List.getElem?_cons_succ, List.set_cons_zero, List.set_cons_succ, Option.join_some, Option.join_none, Option.map_some, List.all_cons, List.all_nil, Value.oneCell', reduceIte, reduceCtorEq, Nat.reduceEqDiff, Nat.reduceAdd, Nat.reduceMul, Nat.reduceLT, Nat.reduceBEq, Nat.reduceLeDiff, Nat.reduceSub, List.size_toArray]
  refine ITri.cond (v := true) rfl (fun _ => ?_) (fun h => by cases h)
  refine ITri.seq ?_
  refine ITri.reg pokT ?_; simp -implicitDefEqProofs (disch := first | decide | exact of_eq_true (eq_true rfl) | omega | assumption) only [ ↓vcD, vcE, evs, evP, evB, intsOf, fillC, Value.cells, pt, List.append_nil, List.nil_append, List.cons_append, List.length_cons, List.length_nil, List.filter_nil, List.map_nil, ↓List.getElem?_cons_zero, ↓List.getElem?_cons_succ, List.getElem?_cons_zero, List.getElem?_cons_succ, List.set_cons_zero, List.set_cons_succ, Option.join_some, Option.join_none, Option.map_some, List.all_cons, List.all_nil, Value.oneCell', reduceIte, reduceCtorEq, Nat.reduceEqDiff, Nat.reduceAdd, Nat.reduceMul, Nat.reduceLT, Nat.reduceBEq, Nat.reduceLeDiff, Nat.reduceSub, List.size_toArray]
  refine ITri.ret ?_; exact EndR.plain (vs := [one]) (by simp) (by rfl) (by rfl) (by rfl)
theorem rToolN_f (a : Int) {h : AH} (hs : h.sees 0 = true) : Fc Try.prog 101 [shN, .int .i64 a] h (one) h := by
  refine Fc.lift0 ?_ rfl rfl hs
  refine Fc.intro0 fn101 (by simp) rfl rfl ?_; simp only [argF]
  refine ITri.seq ?_
  refine ITri.reg pokT ?_; simp -implicitDefEqProofs (disch := first | decide | exact of_eq_true (eq_true rfl) | omega | assumption) only [ ↓vcD, vcE, evs, evP, evB, intsOf, fillC, Value.cells, pt, List.append_nil, List.nil_append, List.cons_append, List.length_cons, List.length_nil, List.filter_nil, List.map_nil, ↓List.getElem?_cons_zero, ↓List.getElem?_cons_succ, List.getElem?_cons_zero, List.getElem?_cons_succ, List.set_cons_zero, List.set_cons_succ, Option.join_some, Option.join_none, Option.map_some, List.all_cons, List.all_nil, Value.oneCell', reduceIte, reduceCtorEq, Nat.reduceEqDiff, Nat.reduceAdd, Nat.reduceMul, Nat.reduceLT, Nat.reduceBEq, Nat.reduceLeDiff, Nat.reduceSub, List.size_toArray]
  refine ITri.seq ?_
  refine ITri.seq ?_
  refine ITri.reg pokT ?_; simp -implicitDefEqProofs (disch := first | decide | exact of_eq_true (eq_true rfl) | omega | assumption) only [ ↓vcD, vcE, evs, evP, evB, intsOf, fillC, Value.cells, pt, List.append_nil, List.nil_append, List.cons_append, List.length_cons, List.length_nil, List.filter_nil, List.map_nil, ↓List.getElem?_cons_zero, ↓List.getElem?_cons_succ, List.getElem?_cons_zero, List.getElem?_cons_succ, List.set_cons_zero, List.set_cons_succ, Option.join_some, Option.join_none, Option.map_some, List.all_cons, List.all_nil, Value.oneCell', reduceIte, reduceCtorEq, Nat.reduceEqDiff, Nat.reduceAdd, Nat.reduceMul, Nat.reduceLT, Nat.reduceBEq, Nat.reduceLeDiff, Nat.reduceSub, List.size_toArray]
  refine ITri.cond (v := true) rfl (fun _ => ?_) (fun h => by cases h)
  refine ITri.seq ?_
  refine ITri.reg pokT ?_; simp -implicitDefEqProofs (disch := first | decide | exact of_eq_true (eq_true rfl) | omega | assumption) only [ ↓vcD, vcE, evs, evP, evB, intsOf, fillC, Value.cells, pt, List.append_nil, List.nil_append, List.cons_append, List.length_cons, List.length_nil, List.filter_nil, List.map_nil, ↓List.getElem?_cons_zero, ↓List.getElem?_cons_succ, List.getElem?_cons_zero, List.getElem?_cons_succ, List.set_cons_zero, List.set_cons_succ, Option.join_some, Option.join_none, Option.map_some, List.all_cons, List.all_nil, Value.oneCell', reduceIte, reduceCtorEq, Nat.reduceEqDiff, Nat.reduceAdd, Nat.reduceMul, Nat.reduceLT, Nat.reduceBEq, Nat.reduceLeDiff, Nat.reduceSub, List.size_toArray]
  refine ITri.ret ?_; exact EndR.plain (vs := [one]) (by simp) (by rfl) (by rfl) (by rfl)
theorem rLotN_f (a : Int) {h : AH} (hs : h.sees 0 = true) : Fc Try.prog 102 [shN, .int .i64 a] h (one) h := by
  refine Fc.lift0 ?_ rfl rfl hs
  refine Fc.intro0 fn102 (by simp) rfl rfl ?_; simp only [argF]
  refine ITri.seq ?_
  refine ITri.reg pokT ?_; simp -implicitDefEqProofs (disch := first | decide | exact of_eq_true (eq_true rfl) | omega | assumption) only [ ↓vcD, vcE, evs, evP, evB, intsOf, fillC, Value.cells, pt, List.append_nil, List.nil_append, List.cons_append, List.length_cons, List.length_nil, List.filter_nil, List.map_nil, ↓List.getElem?_cons_zero, ↓List.getElem?_cons_succ, List.getElem?_cons_zero, List.getElem?_cons_succ, List.set_cons_zero, List.set_cons_succ, Option.join_some, Option.join_none, Option.map_some, List.all_cons, List.all_nil, Value.oneCell', reduceIte, reduceCtorEq, Nat.reduceEqDiff, Nat.reduceAdd, Nat.reduceMul, Nat.reduceLT, Nat.reduceBEq, Nat.reduceLeDiff, Nat.reduceSub, List.size_toArray]
  refine ITri.seq ?_
  refine ITri.seq ?_
  refine ITri.reg pokT ?_; simp -implicitDefEqProofs (disch := first | decide | exact of_eq_true (eq_true rfl) | omega | assumption) only [ ↓vcD, vcE, evs, evP, evB, intsOf, fillC, Value.cells, pt, List.append_nil, List.nil_append, List.cons_append, List.length_cons, List.length_nil, List.filter_nil, List.map_nil, ↓List.getElem?_cons_zero, ↓List.getElem?_cons_succ, List.getElem?_cons_zero, List.getElem?_cons_succ, List.set_cons_zero, List.set_cons_succ, Option.join_some, Option.join_none, Option.map_some, List.all_cons, List.all_nil, Value.oneCell', reduceIte, reduceCtorEq, Nat.reduceEqDiff, Nat.reduceAdd, Nat.reduceMul, Nat.reduceLT, Nat.reduceBEq, Nat.reduceLeDiff, Nat.reduceSub, List.size_toArray]
  refine ITri.cond (v := true) rfl (fun _ => ?_) (fun h => by cases h)
  refine ITri.seq ?_
  refine ITri.reg pokT ?_; simp -implicitDefEqProofs (disch := first | decide | exact of_eq_true (eq_true rfl) | omega | assumption) only [ ↓vcD, vcE, evs, evP, evB, intsOf, fillC, Value.cells, pt, List.append_nil, List.nil_append, List.cons_append, List.length_cons, List.length_nil, List.filter_nil, List.map_nil, ↓List.getElem?_cons_zero, ↓List.getElem?_cons_succ, List.getElem?_cons_zero, List.getElem?_cons_succ, List.set_cons_zero, List.set_cons_succ, Option.join_some, Option.join_none, Option.map_some, List.all_cons, List.all_nil, Value.oneCell', reduceIte, reduceCtorEq, Nat.reduceEqDiff, Nat.reduceAdd, Nat.reduceMul, Nat.reduceLT, Nat.reduceBEq, Nat.reduceLeDiff, Nat.reduceSub, List.size_toArray]
  refine ITri.ret ?_; exact EndR.plain (vs := [one]) (by simp) (by rfl) (by rfl) (by rfl)
theorem rEnterN_f {h : AH} (hs : h.sees 0 = true) : Fc Try.prog 62 [shN] h (.tuple #[shN, .int .i64 0, one]) h := by
  refine Fc.lift0 ?_ rfl rfl hs
  refine Fc.intro0 fn62 (by simp) rfl rfl ?_; simp only [argF]
  refine ITri.seq ?_
  refine ITri.reg pokT ?_; simp -implicitDefEqProofs (disch := first | decide | exact of_eq_true (eq_true rfl) | omega | assumption) only [ ↓vcD, vcE, evs, evP, evB, intsOf, fillC, Value.cells, pt, List.append_nil, List.nil_append, List.cons_append, List.length_cons, List.length_nil, List.filter_nil, List.map_nil, ↓List.getElem?_cons_zero, ↓List.getElem?_cons_succ, List.getElem?_cons_zero, List.getElem?_cons_succ, List.set_cons_zero, List.set_cons_succ, Option.join_some, Option.join_none, Option.map_some, List.all_cons, List.all_nil, Value.oneCell', reduceIte, reduceCtorEq, Nat.reduceEqDiff, Nat.reduceAdd, Nat.reduceMul, Nat.reduceLT, Nat.reduceBEq, Nat.reduceLeDiff, Nat.reduceSub, List.size_toArray]
  refine ITri.seq ?_
  refine ITri.seq ?_
  refine ITri.reg pokT ?_; simp -implicitDefEqProofs (disch := first | decide | exact of_eq_true (eq_true rfl) | omega | assumption) only [ ↓vcD, vcE, evs, evP, evB, intsOf, fillC, Value.cells, pt, List.append_nil, List.nil_append, List.cons_append, List.length_cons, List.length_nil, List.filter_nil, List.map_nil, ↓List.getElem?_cons_zero, ↓List.getElem?_cons_succ, List.getElem?_cons_zero, List.getElem?_cons_succ, List.set_cons_zero, List.set_cons_succ, Option.join_some, Option.join_none, Option.map_some, List.all_cons, List.all_nil, Value.oneCell', reduceIte, reduceCtorEq, Nat.reduceEqDiff, Nat.reduceAdd, Nat.reduceMul, Nat.reduceLT, Nat.reduceBEq, Nat.reduceLeDiff, Nat.reduceSub, List.size_toArray]
  refine ITri.cond (v := true) rfl (fun _ => ?_) (fun h => by cases h)
  refine ITri.seq ?_
  refine ITri.reg pokT ?_; simp -implicitDefEqProofs (disch := first | decide | exact of_eq_true (eq_true rfl) | omega | assumption) only [ ↓vcD, vcE, evs, evP, evB, intsOf, fillC, Value.cells, pt, List.append_nil, List.nil_append, List.cons_append, List.length_cons, List.length_nil, List.filter_nil, List.map_nil, ↓List.getElem?_cons_zero, ↓List.getElem?_cons_succ, List.getElem?_cons_zero, List.getElem?_cons_succ, List.set_cons_zero, List.set_cons_succ, Option.join_some, Option.join_none, Option.map_some, List.all_cons, List.all_nil, Value.oneCell', reduceIte, reduceCtorEq, Nat.reduceEqDiff, Nat.reduceAdd, Nat.reduceMul, Nat.reduceLT, Nat.reduceBEq, Nat.reduceLeDiff, Nat.reduceSub, List.size_toArray]
  refine ITri.ret ?_; exact EndR.plain (vs := [shN, .int .i64 0, one]) (by simp) (resF_agg 8 rfl (by kernel_rfl) (by simp -implicitDefEqProofs (disch := first | decide | exact of_eq_true (eq_true rfl) | omega | assumption) only [↓vcD, vcE, evs, evP, evB, intsOf, fillC, Value.cells, pt, List.append_nil, List.nil_append, List.cons_append, List.length_cons, List.length_nil, List.filter_nil, List.map_nil, ↓List.getElem?_cons_zero, ↓List.getElem?_cons_succ, List.getElem?_cons_zero, List.getElem?_cons_succ, List.set_cons_zero, List.set_cons_succ, Option.join_some, Option.join_none, Option.map_some, List.all_cons, List.all_nil, Value.oneCell', reduceIte, reduceCtorEq, Nat.reduceEqDiff, Nat.reduceAdd, Nat.reduceMul, Nat.reduceLT, Nat.reduceBEq, Nat.reduceLeDiff, Nat.reduceSub, List.size_toArray]) (resF_tmp rfl (resF_tmp rfl resF_nil))) (by rfl) (by rfl)
theorem rTickN_f (a : Int) {h : AH} (hs : h.sees 0 = true) : Fc Try.prog 64 [shN, .int .i64 a] h (.tuple #[shN, one]) h := by
  refine Fc.lift0 ?_ rfl rfl hs
  refine Fc.intro0 fn64 (by simp) rfl rfl ?_; simp only [argF]
  refine ITri.seq ?_
  refine ITri.reg pokT ?_; simp -implicitDefEqProofs (disch := first | decide | exact of_eq_true (eq_true rfl) | omega | assumption) only [ ↓vcD, vcE, evs, evP, evB, intsOf, fillC, Value.cells, pt, List.append_nil, List.nil_append, List.cons_append, List.length_cons, List.length_nil, List.filter_nil, List.map_nil, ↓List.getElem?_cons_zero, ↓List.getElem?_cons_succ, List.getElem?_cons_zero, List.getElem?_cons_succ, List.set_cons_zero, List.set_cons_succ, Option.join_some, Option.join_none, Option.map_some, List.all_cons, List.all_nil, Value.oneCell', reduceIte, reduceCtorEq, Nat.reduceEqDiff, Nat.reduceAdd, Nat.reduceMul, Nat.reduceLT, Nat.reduceBEq, Nat.reduceLeDiff, Nat.reduceSub, List.size_toArray]
  refine ITri.seq ?_
  refine ITri.seq ?_
  refine ITri.reg pokT ?_; simp -implicitDefEqProofs (disch := first | decide | exact of_eq_true (eq_true rfl) | omega | assumption) only [ ↓vcD, vcE, evs, evP, evB, intsOf, fillC, Value.cells, pt, List.append_nil, List.nil_append, List.cons_append, List.length_cons, List.length_nil, List.filter_nil, List.map_nil, ↓List.getElem?_cons_zero, ↓List.getElem?_cons_succ, List.getElem?_cons_zero, List.getElem?_cons_succ, List.set_cons_zero, List.set_cons_succ, Option.join_some, Option.join_none, Option.map_some, List.all_cons, List.all_nil, Value.oneCell', reduceIte, reduceCtorEq, Nat.reduceEqDiff, Nat.reduceAdd, Nat.reduceMul, Nat.reduceLT, Nat.reduceBEq, Nat.reduceLeDiff, Nat.reduceSub, List.size_toArray]
  refine ITri.cond (v := true) rfl (fun _ => ?_) (fun h => by cases h)
  refine ITri.seq ?_
  refine ITri.reg pokT ?_; simp -implicitDefEqProofs (disch := first | decide | exact of_eq_true (eq_true rfl) | omega | assumption) only [ ↓vcD, vcE, evs, evP, evB, intsOf, fillC, Value.cells, pt, List.append_nil, List.nil_append, List.cons_append, List.length_cons, List.length_nil, List.filter_nil, List.map_nil, ↓List.getElem?_cons_zero, ↓List.getElem?_cons_succ, List.getElem?_cons_zero, List.getElem?_cons_succ, List.set_cons_zero, List.set_cons_succ, Option.join_some, Option.join_none, Option.map_some, List.all_cons, List.all_nil, Value.oneCell', reduceIte, reduceCtorEq, Nat.reduceEqDiff, Nat.reduceAdd, Nat.reduceMul, Nat.reduceLT, Nat.reduceBEq, Nat.reduceLeDiff, Nat.reduceSub, List.size_toArray]
  refine ITri.ret ?_; exact EndR.plain (vs := [shN, one]) (by simp) (resF_agg 8 rfl (by kernel_rfl) (by simp -implicitDefEqProofs (disch := first | decide | exact of_eq_true (eq_true rfl) | omega | assumption) only [↓vcD, vcE, evs, evP, evB, intsOf, fillC, Value.cells, pt, List.append_nil, List.nil_append, List.cons_append, List.length_cons, List.length_nil, List.filter_nil, List.map_nil, ↓List.getElem?_cons_zero, ↓List.getElem?_cons_succ, List.getElem?_cons_zero, List.getElem?_cons_succ, List.set_cons_zero, List.set_cons_succ, Option.join_some, Option.join_none, Option.map_some, List.all_cons, List.all_nil, Value.oneCell', reduceIte, reduceCtorEq, Nat.reduceEqDiff, Nat.reduceAdd, Nat.reduceMul, Nat.reduceLT, Nat.reduceBEq, Nat.reduceLeDiff, Nat.reduceSub, List.size_toArray]) (resF_tmp rfl resF_nil)) (by rfl) (by rfl)
theorem rAbortN_f (a : Int) {h : AH} (hs : h.sees 0 = true) : Fc Try.prog 66 [shN, .int .i64 a] h (.tuple #[shN, one]) h := by
  refine Fc.lift0 ?_ rfl rfl hs
  refine Fc.intro0 fn66 (by simp) rfl rfl ?_; simp only [argF]
  refine ITri.seq ?_
  refine ITri.reg pokT ?_; simp -implicitDefEqProofs (disch := first | decide | exact of_eq_true (eq_true rfl) | omega | assumption) only [ ↓vcD, vcE, evs, evP, evB, intsOf, fillC, Value.cells, pt, List.append_nil, List.nil_append, List.cons_append, List.length_cons, List.length_nil, List.filter_nil, List.map_nil, ↓List.getElem?_cons_zero, ↓List.getElem?_cons_succ, List.getElem?_cons_zero, List.getElem?_cons_succ, List.set_cons_zero, List.set_cons_succ, Option.join_some, Option.join_none, Option.map_some, List.all_cons, List.all_nil, Value.oneCell', reduceIte, reduceCtorEq, Nat.reduceEqDiff, Nat.reduceAdd, Nat.reduceMul, Nat.reduceLT, Nat.reduceBEq, Nat.reduceLeDiff, Nat.reduceSub, List.size_toArray]
  refine ITri.seq ?_
  refine ITri.seq ?_
  refine ITri.reg pokT ?_; simp -implicitDefEqProofs (disch := first | decide | exact of_eq_true (eq_true rfl) | omega | assumption) only [ ↓vcD, vcE, evs, evP, evB, intsOf, fillC, Value.cells, pt, List.append_nil, List.nil_append, List.cons_append, List.length_cons, List.length_nil, List.filter_nil, List.map_nil, ↓List.getElem?_cons_zero, ↓List.getElem?_cons_succ, List.getElem?_cons_zero, List.getElem?_cons_succ, List.set_cons_zero, List.set_cons_succ, Option.join_some, Option.join_none, Option.map_some, List.all_cons, List.all_nil, Value.oneCell', reduceIte, reduceCtorEq, Nat.reduceEqDiff, Nat.reduceAdd, Nat.reduceMul, Nat.reduceLT, Nat.reduceBEq, Nat.reduceLeDiff, Nat.reduceSub, List.size_toArray]
  refine ⟨_, _, rToolN_f _ (sees0 rfl (of_decide_eq_true rfl)), ?_⟩
  try simp -implicitDefEqProofs (disch := first | decide | exact of_eq_true (eq_true rfl) | omega | assumption) only [ ↓vcD, vcE, evs, evP, evB, intsOf, fillC, Value.cells, pt, List.append_nil, List.nil_append, List.cons_append, List.length_cons, List.length_nil, List.filter_nil, List.map_nil, ↓List.getElem?_cons_zero, ↓List.getElem?_cons_succ, List.getElem?_cons_zero, List.getElem?_cons_succ, List.set_cons_zero, List.set_cons_succ, Option.join_some, Option.join_none, Option.map_some, List.all_cons, List.all_nil, Value.oneCell', reduceIte, reduceCtorEq, Nat.reduceEqDiff, Nat.reduceAdd, Nat.reduceMul, Nat.reduceLT, Nat.reduceBEq, Nat.reduceLeDiff, Nat.reduceSub, List.size_toArray]
  refine ITri.seq ?_
  refine ITri.reg pokT ?_; simp -implicitDefEqProofs (disch := first | decide | exact of_eq_true (eq_true rfl) | omega | assumption) only [ ↓vcD, vcE, evs, evP, evB, intsOf, fillC, Value.cells, pt, List.append_nil, List.nil_append, List.cons_append, List.length_cons, List.length_nil, List.filter_nil, List.map_nil, ↓List.getElem?_cons_zero, ↓List.getElem?_cons_succ, List.getElem?_cons_zero, List.getElem?_cons_succ, List.set_cons_zero, List.set_cons_succ, Option.join_some, Option.join_none, Option.map_some, List.all_cons, List.all_nil, Value.oneCell', reduceIte, reduceCtorEq, Nat.reduceEqDiff, Nat.reduceAdd, Nat.reduceMul, Nat.reduceLT, Nat.reduceBEq, Nat.reduceLeDiff, Nat.reduceSub, List.size_toArray]
  refine ITri.cond (v := true) rfl (fun _ => ?_) (fun h => by cases h)
  refine ITri.seq ?_
  refine ITri.reg pokT ?_; simp -implicitDefEqProofs (disch := first | decide | exact of_eq_true (eq_true rfl) | omega | assumption) only [ ↓vcD, vcE, evs, evP, evB, intsOf, fillC, Value.cells, pt, List.append_nil, List.nil_append, List.cons_append, List.length_cons, List.length_nil, List.filter_nil, List.map_nil, ↓List.getElem?_cons_zero, ↓List.getElem?_cons_succ, List.getElem?_cons_zero, List.getElem?_cons_succ, List.set_cons_zero, List.set_cons_succ, Option.join_some, Option.join_none, Option.map_some, List.all_cons, List.all_nil, Value.oneCell', reduceIte, reduceCtorEq, Nat.reduceEqDiff, Nat.reduceAdd, Nat.reduceMul, Nat.reduceLT, Nat.reduceBEq, Nat.reduceLeDiff, Nat.reduceSub, List.size_toArray]
  refine ITri.ret ?_; exact EndR.plain (vs := [shN, one]) (by simp) (resF_agg 8 rfl (by kernel_rfl) (by simp -implicitDefEqProofs (disch := first | decide | exact of_eq_true (eq_true rfl) | omega | assumption) only [↓vcD, vcE, evs, evP, evB, intsOf, fillC, Value.cells, pt, List.append_nil, List.nil_append, List.cons_append, List.length_cons, List.length_nil, List.filter_nil, List.map_nil, ↓List.getElem?_cons_zero, ↓List.getElem?_cons_succ, List.getElem?_cons_zero, List.getElem?_cons_succ, List.set_cons_zero, List.set_cons_succ, Option.join_some, Option.join_none, Option.map_some, List.all_cons, List.all_nil, Value.oneCell', reduceIte, reduceCtorEq, Nat.reduceEqDiff, Nat.reduceAdd, Nat.reduceMul, Nat.reduceLT, Nat.reduceBEq, Nat.reduceLeDiff, Nat.reduceSub, List.size_toArray]) (resF_tmp rfl resF_nil)) (by rfl) (by rfl)
theorem rMeasN_f (a b : Int) {h : AH} (hs : h.sees 0 = true) : Fc Try.prog 67 [shN, .int .i64 a, .int .i64 b] h (.tuple #[shN, .bool false, one]) h := by
  refine Fc.lift0 ?_ rfl rfl hs
  refine Fc.intro0 fn67 (by simp) rfl rfl ?_; simp only [argF]
  refine ITri.seq ?_
  refine ITri.reg pokT ?_; simp -implicitDefEqProofs (disch := first | decide | exact of_eq_true (eq_true rfl) | omega | assumption) only [ ↓vcD, vcE, evs, evP, evB, intsOf, fillC, Value.cells, pt, List.append_nil, List.nil_append, List.cons_append, List.length_cons, List.length_nil, List.filter_nil, List.map_nil, ↓List.getElem?_cons_zero, ↓List.getElem?_cons_succ, List.getElem?_cons_zero, List.getElem?_cons_succ, List.set_cons_zero, List.set_cons_succ, Option.join_some, Option.join_none, Option.map_some, List.all_cons, List.all_nil, Value.oneCell', reduceIte, reduceCtorEq, Nat.reduceEqDiff, Nat.reduceAdd, Nat.reduceMul, Nat.reduceLT, Nat.reduceBEq, Nat.reduceLeDiff, Nat.reduceSub, List.size_toArray]
  refine ITri.seq ?_
  refine ITri.seq ?_
  refine ITri.reg pokT ?_; simp -implicitDefEqProofs (disch := first | decide | exact of_eq_true (eq_true rfl) | omega | assumption) only [ ↓vcD, vcE, evs, evP, evB, intsOf, fillC, Value.cells, pt, List.append_nil, List.nil_append, List.cons_append, List.length_cons, List.length_nil, List.filter_nil, List.map_nil, ↓List.getElem?_cons_zero, ↓List.getElem?_cons_succ, List.getElem?_cons_zero, List.getElem?_cons_succ, List.set_cons_zero, List.set_cons_succ, Option.join_some, Option.join_none, Option.map_some, List.all_cons, List.all_nil, Value.oneCell', reduceIte, reduceCtorEq, Nat.reduceEqDiff, Nat.reduceAdd, Nat.reduceMul, Nat.reduceLT, Nat.reduceBEq, Nat.reduceLeDiff, Nat.reduceSub, List.size_toArray]
  refine ⟨_, _, rToolN_f _ (sees0 rfl (of_decide_eq_true rfl)), ?_⟩
  try simp -implicitDefEqProofs (disch := first | decide | exact of_eq_true (eq_true rfl) | omega | assumption) only [ ↓vcD, vcE, evs, evP, evB, intsOf, fillC, Value.cells, pt, List.append_nil, List.nil_append, List.cons_append, List.length_cons, List.length_nil, List.filter_nil, List.map_nil, ↓List.getElem?_cons_zero, ↓List.getElem?_cons_succ, List.getElem?_cons_zero, List.getElem?_cons_succ, List.set_cons_zero, List.set_cons_succ, Option.join_some, Option.join_none, Option.map_some, List.all_cons, List.all_nil, Value.oneCell', reduceIte, reduceCtorEq, Nat.reduceEqDiff, Nat.reduceAdd, Nat.reduceMul, Nat.reduceLT, Nat.reduceBEq, Nat.reduceLeDiff, Nat.reduceSub, List.size_toArray]
  refine ITri.seq ?_
  refine ITri.reg pokT ?_; simp -implicitDefEqProofs (disch := first | decide | exact of_eq_true (eq_true rfl) | omega | assumption) only [ ↓vcD, vcE, evs, evP, evB, intsOf, fillC, Value.cells, pt, List.append_nil, List.nil_append, List.cons_append, List.length_cons, List.length_nil, List.filter_nil, List.map_nil, ↓List.getElem?_cons_zero, ↓List.getElem?_cons_succ, List.getElem?_cons_zero, List.getElem?_cons_succ, List.set_cons_zero, List.set_cons_succ, Option.join_some, Option.join_none, Option.map_some, List.all_cons, List.all_nil, Value.oneCell', reduceIte, reduceCtorEq, Nat.reduceEqDiff, Nat.reduceAdd, Nat.reduceMul, Nat.reduceLT, Nat.reduceBEq, Nat.reduceLeDiff, Nat.reduceSub, List.size_toArray]
  refine ITri.cond (v := true) rfl (fun _ => ?_) (fun h => by cases h)
  refine ITri.seq ?_
  refine ITri.reg pokT ?_; simp -implicitDefEqProofs (disch := first | decide | exact of_eq_true (eq_true rfl) | omega | assumption) only [ ↓vcD, vcE, evs, evP, evB, intsOf, fillC, Value.cells, pt, List.append_nil, List.nil_append, List.cons_append, List.length_cons, List.length_nil, List.filter_nil, List.map_nil, ↓List.getElem?_cons_zero, ↓List.getElem?_cons_succ, List.getElem?_cons_zero, List.getElem?_cons_succ, List.set_cons_zero, List.set_cons_succ, Option.join_some, Option.join_none, Option.map_some, List.all_cons, List.all_nil, Value.oneCell', reduceIte, reduceCtorEq, Nat.reduceEqDiff, Nat.reduceAdd, Nat.reduceMul, Nat.reduceLT, Nat.reduceBEq, Nat.reduceLeDiff, Nat.reduceSub, List.size_toArray]
  refine ITri.ret ?_; exact EndR.plain (vs := [shN, .bool false, one]) (by simp) (resF_agg 8 rfl (by kernel_rfl) (by simp -implicitDefEqProofs (disch := first | decide | exact of_eq_true (eq_true rfl) | omega | assumption) only [↓vcD, vcE, evs, evP, evB, intsOf, fillC, Value.cells, pt, List.append_nil, List.nil_append, List.cons_append, List.length_cons, List.length_nil, List.filter_nil, List.map_nil, ↓List.getElem?_cons_zero, ↓List.getElem?_cons_succ, List.getElem?_cons_zero, List.getElem?_cons_succ, List.set_cons_zero, List.set_cons_succ, Option.join_some, Option.join_none, Option.map_some, List.all_cons, List.all_nil, Value.oneCell', reduceIte, reduceCtorEq, Nat.reduceEqDiff, Nat.reduceAdd, Nat.reduceMul, Nat.reduceLT, Nat.reduceBEq, Nat.reduceLeDiff, Nat.reduceSub, List.size_toArray]) (resF_tmp rfl (resF_tmp rfl resF_nil))) (by rfl) (by rfl)
theorem rHoldN_f (a b : Int) {h : AH} (hs : h.sees 0 = true) : Fc Try.prog 69 [shN, .int .i64 a, .int .i64 b] h (.tuple #[shN, one]) h := by
  refine Fc.lift0 ?_ rfl rfl hs
  refine Fc.intro0 fn69 (by simp) rfl rfl ?_; simp only [argF]
  refine ITri.seq ?_
  refine ITri.reg pokT ?_; simp -implicitDefEqProofs (disch := first | decide | exact of_eq_true (eq_true rfl) | omega | assumption) only [ ↓vcD, vcE, evs, evP, evB, intsOf, fillC, Value.cells, pt, List.append_nil, List.nil_append, List.cons_append, List.length_cons, List.length_nil, List.filter_nil, List.map_nil, ↓List.getElem?_cons_zero, ↓List.getElem?_cons_succ, List.getElem?_cons_zero, List.getElem?_cons_succ, List.set_cons_zero, List.set_cons_succ, Option.join_some, Option.join_none, Option.map_some, List.all_cons, List.all_nil, Value.oneCell', reduceIte, reduceCtorEq, Nat.reduceEqDiff, Nat.reduceAdd, Nat.reduceMul, Nat.reduceLT, Nat.reduceBEq, Nat.reduceLeDiff, Nat.reduceSub, List.size_toArray]
  refine ITri.seq ?_
  refine ITri.seq ?_
  refine ITri.reg pokT ?_; simp -implicitDefEqProofs (disch := first | decide | exact of_eq_true (eq_true rfl) | omega | assumption) only [ ↓vcD, vcE, evs, evP, evB, intsOf, fillC, Value.cells, pt, List.append_nil, List.nil_append, List.cons_append, List.length_cons, List.length_nil, List.filter_nil, List.map_nil, ↓List.getElem?_cons_zero, ↓List.getElem?_cons_succ, List.getElem?_cons_zero, List.getElem?_cons_succ, List.set_cons_zero, List.set_cons_succ, Option.join_some, Option.join_none, Option.map_some, List.all_cons, List.all_nil, Value.oneCell', reduceIte, reduceCtorEq, Nat.reduceEqDiff, Nat.reduceAdd, Nat.reduceMul, Nat.reduceLT, Nat.reduceBEq, Nat.reduceLeDiff, Nat.reduceSub, List.size_toArray]
  refine ⟨_, _, rLotN_f _ (sees0 rfl (of_decide_eq_true rfl)), ?_⟩
  try simp -implicitDefEqProofs (disch := first | decide | exact of_eq_true (eq_true rfl) | omega | assumption) only [ ↓vcD, vcE, evs, evP, evB, intsOf, fillC, Value.cells, pt, List.append_nil, List.nil_append, List.cons_append, List.length_cons, List.length_nil, List.filter_nil, List.map_nil, ↓List.getElem?_cons_zero, ↓List.getElem?_cons_succ, List.getElem?_cons_zero, List.getElem?_cons_succ, List.set_cons_zero, List.set_cons_succ, Option.join_some, Option.join_none, Option.map_some, List.all_cons, List.all_nil, Value.oneCell', reduceIte, reduceCtorEq, Nat.reduceEqDiff, Nat.reduceAdd, Nat.reduceMul, Nat.reduceLT, Nat.reduceBEq, Nat.reduceLeDiff, Nat.reduceSub, List.size_toArray]
  refine ITri.seq ?_
  refine ITri.reg pokT ?_; simp -implicitDefEqProofs (disch := first | decide | exact of_eq_true (eq_true rfl) | omega | assumption) only [ ↓vcD, vcE, evs, evP, evB, intsOf, fillC, Value.cells, pt, List.append_nil, List.nil_append, List.cons_append, List.length_cons, List.length_nil, List.filter_nil, List.map_nil, ↓List.getElem?_cons_zero, ↓List.getElem?_cons_succ, List.getElem?_cons_zero, List.getElem?_cons_succ, List.set_cons_zero, List.set_cons_succ, Option.join_some, Option.join_none, Option.map_some, List.all_cons, List.all_nil, Value.oneCell', reduceIte, reduceCtorEq, Nat.reduceEqDiff, Nat.reduceAdd, Nat.reduceMul, Nat.reduceLT, Nat.reduceBEq, Nat.reduceLeDiff, Nat.reduceSub, List.size_toArray]
  refine ITri.cond (v := true) rfl (fun _ => ?_) (fun h => by cases h)
  refine ITri.seq ?_
  refine ITri.reg pokT ?_; simp -implicitDefEqProofs (disch := first | decide | exact of_eq_true (eq_true rfl) | omega | assumption) only [ ↓vcD, vcE, evs, evP, evB, intsOf, fillC, Value.cells, pt, List.append_nil, List.nil_append, List.cons_append, List.length_cons, List.length_nil, List.filter_nil, List.map_nil, ↓List.getElem?_cons_zero, ↓List.getElem?_cons_succ, List.getElem?_cons_zero, List.getElem?_cons_succ, List.set_cons_zero, List.set_cons_succ, Option.join_some, Option.join_none, Option.map_some, List.all_cons, List.all_nil, Value.oneCell', reduceIte, reduceCtorEq, Nat.reduceEqDiff, Nat.reduceAdd, Nat.reduceMul, Nat.reduceLT, Nat.reduceBEq, Nat.reduceLeDiff, Nat.reduceSub, List.size_toArray]
  refine ITri.ret ?_; exact EndR.plain (vs := [shN, one]) (by simp) (resF_agg 8 rfl (by kernel_rfl) (by simp -implicitDefEqProofs (disch := first | decide | exact of_eq_true (eq_true rfl) | omega | assumption) only [↓vcD, vcE, evs, evP, evB, intsOf, fillC, Value.cells, pt, List.append_nil, List.nil_append, List.cons_append, List.length_cons, List.length_nil, List.filter_nil, List.map_nil, ↓List.getElem?_cons_zero, ↓List.getElem?_cons_succ, List.getElem?_cons_zero, List.getElem?_cons_succ, List.set_cons_zero, List.set_cons_succ, Option.join_some, Option.join_none, Option.map_some, List.all_cons, List.all_nil, Value.oneCell', reduceIte, reduceCtorEq, Nat.reduceEqDiff, Nat.reduceAdd, Nat.reduceMul, Nat.reduceLT, Nat.reduceBEq, Nat.reduceLeDiff, Nat.reduceSub, List.size_toArray]) (resF_tmp rfl resF_nil)) (by rfl) (by rfl)
theorem rSignN_f (a b : Int) {h : AH} (hs : h.sees 0 = true) : Fc Try.prog 71 [shN, .int .i64 a, .int .i64 b] h (.tuple #[shN, .bool false, one]) h := by
  refine Fc.lift0 ?_ rfl rfl hs
  refine Fc.intro0 fn71 (by simp) rfl rfl ?_; simp only [argF]
  refine ITri.seq ?_
  refine ITri.reg pokT ?_; simp -implicitDefEqProofs (disch := first | decide | exact of_eq_true (eq_true rfl) | omega | assumption) only [ ↓vcD, vcE, evs, evP, evB, intsOf, fillC, Value.cells, pt, List.append_nil, List.nil_append, List.cons_append, List.length_cons, List.length_nil, List.filter_nil, List.map_nil, ↓List.getElem?_cons_zero, ↓List.getElem?_cons_succ, List.getElem?_cons_zero, List.getElem?_cons_succ, List.set_cons_zero, List.set_cons_succ, Option.join_some, Option.join_none, Option.map_some, List.all_cons, List.all_nil, Value.oneCell', reduceIte, reduceCtorEq, Nat.reduceEqDiff, Nat.reduceAdd, Nat.reduceMul, Nat.reduceLT, Nat.reduceBEq, Nat.reduceLeDiff, Nat.reduceSub, List.size_toArray]
  refine ITri.seq ?_
  refine ITri.seq ?_
  refine ITri.reg pokT ?_; simp -implicitDefEqProofs (disch := first | decide | exact of_eq_true (eq_true rfl) | omega | assumption) only [ ↓vcD, vcE, evs, evP, evB, intsOf, fillC, Value.cells, pt, List.append_nil, List.nil_append, List.cons_append, List.length_cons, List.length_nil, List.filter_nil, List.map_nil, ↓List.getElem?_cons_zero, ↓List.getElem?_cons_succ, List.getElem?_cons_zero, List.getElem?_cons_succ, List.set_cons_zero, List.set_cons_succ, Option.join_some, Option.join_none, Option.map_some, List.all_cons, List.all_nil, Value.oneCell', reduceIte, reduceCtorEq, Nat.reduceEqDiff, Nat.reduceAdd, Nat.reduceMul, Nat.reduceLT, Nat.reduceBEq, Nat.reduceLeDiff, Nat.reduceSub, List.size_toArray]
  refine ⟨_, _, rLotN_f _ (sees0 rfl (of_decide_eq_true rfl)), ?_⟩
  try simp -implicitDefEqProofs (disch := first | decide | exact of_eq_true (eq_true rfl) | omega | assumption) only [ ↓vcD, vcE, evs, evP, evB, intsOf, fillC, Value.cells, pt, List.append_nil, List.nil_append, List.cons_append, List.length_cons, List.length_nil, List.filter_nil, List.map_nil, ↓List.getElem?_cons_zero, ↓List.getElem?_cons_succ, List.getElem?_cons_zero, List.getElem?_cons_succ, List.set_cons_zero, List.set_cons_succ, Option.join_some, Option.join_none, Option.map_some, List.all_cons, List.all_nil, Value.oneCell', reduceIte, reduceCtorEq, Nat.reduceEqDiff, Nat.reduceAdd, Nat.reduceMul, Nat.reduceLT, Nat.reduceBEq, Nat.reduceLeDiff, Nat.reduceSub, List.size_toArray]
  refine ITri.seq ?_
  refine ITri.reg pokT ?_; simp -implicitDefEqProofs (disch := first | decide | exact of_eq_true (eq_true rfl) | omega | assumption) only [ ↓vcD, vcE, evs, evP, evB, intsOf, fillC, Value.cells, pt, List.append_nil, List.nil_append, List.cons_append, List.length_cons, List.length_nil, List.filter_nil, List.map_nil, ↓List.getElem?_cons_zero, ↓List.getElem?_cons_succ, List.getElem?_cons_zero, List.getElem?_cons_succ, List.set_cons_zero, List.set_cons_succ, Option.join_some, Option.join_none, Option.map_some, List.all_cons, List.all_nil, Value.oneCell', reduceIte, reduceCtorEq, Nat.reduceEqDiff, Nat.reduceAdd, Nat.reduceMul, Nat.reduceLT, Nat.reduceBEq, Nat.reduceLeDiff, Nat.reduceSub, List.size_toArray]
  refine ITri.cond (v := true) rfl (fun _ => ?_) (fun h => by cases h)
  refine ITri.seq ?_
  refine ITri.reg pokT ?_; simp -implicitDefEqProofs (disch := first | decide | exact of_eq_true (eq_true rfl) | omega | assumption) only [ ↓vcD, vcE, evs, evP, evB, intsOf, fillC, Value.cells, pt, List.append_nil, List.nil_append, List.cons_append, List.length_cons, List.length_nil, List.filter_nil, List.map_nil, ↓List.getElem?_cons_zero, ↓List.getElem?_cons_succ, List.getElem?_cons_zero, List.getElem?_cons_succ, List.set_cons_zero, List.set_cons_succ, Option.join_some, Option.join_none, Option.map_some, List.all_cons, List.all_nil, Value.oneCell', reduceIte, reduceCtorEq, Nat.reduceEqDiff, Nat.reduceAdd, Nat.reduceMul, Nat.reduceLT, Nat.reduceBEq, Nat.reduceLeDiff, Nat.reduceSub, List.size_toArray]
  refine ITri.ret ?_; exact EndR.plain (vs := [shN, .bool false, one]) (by simp) (resF_agg 8 rfl (by kernel_rfl) (by simp -implicitDefEqProofs (disch := first | decide | exact of_eq_true (eq_true rfl) | omega | assumption) only [↓vcD, vcE, evs, evP, evB, intsOf, fillC, Value.cells, pt, List.append_nil, List.nil_append, List.cons_append, List.length_cons, List.length_nil, List.filter_nil, List.map_nil, ↓List.getElem?_cons_zero, ↓List.getElem?_cons_succ, List.getElem?_cons_zero, List.getElem?_cons_succ, List.set_cons_zero, List.set_cons_succ, Option.join_some, Option.join_none, Option.map_some, List.all_cons, List.all_nil, Value.oneCell', reduceIte, reduceCtorEq, Nat.reduceEqDiff, Nat.reduceAdd, Nat.reduceMul, Nat.reduceLT, Nat.reduceBEq, Nat.reduceLeDiff, Nat.reduceSub, List.size_toArray]) (resF_tmp rfl (resF_tmp rfl resF_nil))) (by rfl) (by rfl)
theorem rSignTN_f (a b : Int) {h : AH} (hs : h.sees 0 = true) : Fc Try.prog 73 [shN, .int .i64 a, .int .i64 b] h (.tuple #[shN, .bool false, one]) h := by
  refine Fc.lift0 ?_ rfl rfl hs
  refine Fc.intro0 fn73 (by simp) rfl rfl ?_; simp only [argF]
  refine ITri.seq ?_
  refine ITri.reg pokT ?_; simp -implicitDefEqProofs (disch := first | decide | exact of_eq_true (eq_true rfl) | omega | assumption) only [ ↓vcD, vcE, evs, evP, evB, intsOf, fillC, Value.cells, pt, List.append_nil, List.nil_append, List.cons_append, List.length_cons, List.length_nil, List.filter_nil, List.map_nil, ↓List.getElem?_cons_zero, ↓List.getElem?_cons_succ, List.getElem?_cons_zero, List.getElem?_cons_succ, List.set_cons_zero, List.set_cons_succ, Option.join_some, Option.join_none, Option.map_some, List.all_cons, List.all_nil, Value.oneCell', reduceIte, reduceCtorEq, Nat.reduceEqDiff, Nat.reduceAdd, Nat.reduceMul, Nat.reduceLT, Nat.reduceBEq, Nat.reduceLeDiff, Nat.reduceSub, List.size_toArray]
  refine ITri.seq ?_
  refine ITri.seq ?_
  refine ITri.reg pokT ?_; simp -implicitDefEqProofs (disch := first | decide | exact of_eq_true (eq_true rfl) | omega | assumption) only [ ↓vcD, vcE, evs, evP, evB, intsOf, fillC, Value.cells, pt, List.append_nil, List.nil_append, List.cons_append, List.length_cons, List.length_nil, List.filter_nil, List.map_nil, ↓List.getElem?_cons_zero, ↓List.getElem?_cons_succ, List.getElem?_cons_zero, List.getElem?_cons_succ, List.set_cons_zero, List.set_cons_succ, Option.join_some, Option.join_none, Option.map_some, List.all_cons, List.all_nil, Value.oneCell', reduceIte, reduceCtorEq, Nat.reduceEqDiff, Nat.reduceAdd, Nat.reduceMul, Nat.reduceLT, Nat.reduceBEq, Nat.reduceLeDiff, Nat.reduceSub, List.size_toArray]
  refine ⟨_, _, rToolN_f _ (sees0 rfl (of_decide_eq_true rfl)), ?_⟩
  try simp -implicitDefEqProofs (disch := first | decide | exact of_eq_true (eq_true rfl) | omega | assumption) only [ ↓vcD, vcE, evs, evP, evB, intsOf, fillC, Value.cells, pt, List.append_nil, List.nil_append, List.cons_append, List.length_cons, List.length_nil, List.filter_nil, List.map_nil, ↓List.getElem?_cons_zero, ↓List.getElem?_cons_succ, List.getElem?_cons_zero, List.getElem?_cons_succ, List.set_cons_zero, List.set_cons_succ, Option.join_some, Option.join_none, Option.map_some, List.all_cons, List.all_nil, Value.oneCell', reduceIte, reduceCtorEq, Nat.reduceEqDiff, Nat.reduceAdd, Nat.reduceMul, Nat.reduceLT, Nat.reduceBEq, Nat.reduceLeDiff, Nat.reduceSub, List.size_toArray]
  refine ITri.seq ?_
  refine ITri.reg pokT ?_; simp -implicitDefEqProofs (disch := first | decide | exact of_eq_true (eq_true rfl) | omega | assumption) only [ ↓vcD, vcE, evs, evP, evB, intsOf, fillC, Value.cells, pt, List.append_nil, List.nil_append, List.cons_append, List.length_cons, List.length_nil, List.filter_nil, List.map_nil, ↓List.getElem?_cons_zero, ↓List.getElem?_cons_succ, List.getElem?_cons_zero, List.getElem?_cons_succ, List.set_cons_zero, List.set_cons_succ, Option.join_some, Option.join_none, Option.map_some, List.all_cons, List.all_nil, Value.oneCell', reduceIte, reduceCtorEq, Nat.reduceEqDiff, Nat.reduceAdd, Nat.reduceMul, Nat.reduceLT, Nat.reduceBEq, Nat.reduceLeDiff, Nat.reduceSub, List.size_toArray]
  refine ITri.cond (v := true) rfl (fun _ => ?_) (fun h => by cases h)
  refine ITri.seq ?_
  refine ITri.reg pokT ?_; simp -implicitDefEqProofs (disch := first | decide | exact of_eq_true (eq_true rfl) | omega | assumption) only [ ↓vcD, vcE, evs, evP, evB, intsOf, fillC, Value.cells, pt, List.append_nil, List.nil_append, List.cons_append, List.length_cons, List.length_nil, List.filter_nil, List.map_nil, ↓List.getElem?_cons_zero, ↓List.getElem?_cons_succ, List.getElem?_cons_zero, List.getElem?_cons_succ, List.set_cons_zero, List.set_cons_succ, Option.join_some, Option.join_none, Option.map_some, List.all_cons, List.all_nil, Value.oneCell', reduceIte, reduceCtorEq, Nat.reduceEqDiff, Nat.reduceAdd, Nat.reduceMul, Nat.reduceLT, Nat.reduceBEq, Nat.reduceLeDiff, Nat.reduceSub, List.size_toArray]
  refine ITri.ret ?_; exact EndR.plain (vs := [shN, .bool false, one]) (by simp) (resF_agg 8 rfl (by kernel_rfl) (by simp -implicitDefEqProofs (disch := first | decide | exact of_eq_true (eq_true rfl) | omega | assumption) only [↓vcD, vcE, evs, evP, evB, intsOf, fillC, Value.cells, pt, List.append_nil, List.nil_append, List.cons_append, List.length_cons, List.length_nil, List.filter_nil, List.map_nil, ↓List.getElem?_cons_zero, ↓List.getElem?_cons_succ, List.getElem?_cons_zero, List.getElem?_cons_succ, List.set_cons_zero, List.set_cons_succ, Option.join_some, Option.join_none, Option.map_some, List.all_cons, List.all_nil, Value.oneCell', reduceIte, reduceCtorEq, Nat.reduceEqDiff, Nat.reduceAdd, Nat.reduceMul, Nat.reduceLT, Nat.reduceBEq, Nat.reduceLeDiff, Nat.reduceSub, List.size_toArray]) (resF_tmp rfl (resF_tmp rfl resF_nil))) (by rfl) (by rfl)
theorem rServN_f (a : Int) {h : AH} (hs : h.sees 0 = true) : Fc Try.prog 75 [shN, .int .i64 a] h (.tuple #[shN, one]) h := by
  refine Fc.lift0 ?_ rfl rfl hs
  refine Fc.intro0 fn75 (by simp) rfl rfl ?_; simp only [argF]
  refine ITri.seq ?_
  refine ITri.reg pokT ?_; simp -implicitDefEqProofs (disch := first | decide | exact of_eq_true (eq_true rfl) | omega | assumption) only [ ↓vcD, vcE, evs, evP, evB, intsOf, fillC, Value.cells, pt, List.append_nil, List.nil_append, List.cons_append, List.length_cons, List.length_nil, List.filter_nil, List.map_nil, ↓List.getElem?_cons_zero, ↓List.getElem?_cons_succ, List.getElem?_cons_zero, List.getElem?_cons_succ, List.set_cons_zero, List.set_cons_succ, Option.join_some, Option.join_none, Option.map_some, List.all_cons, List.all_nil, Value.oneCell', reduceIte, reduceCtorEq, Nat.reduceEqDiff, Nat.reduceAdd, Nat.reduceMul, Nat.reduceLT, Nat.reduceBEq, Nat.reduceLeDiff, Nat.reduceSub, List.size_toArray]
  refine ITri.seq ?_
  refine ITri.seq ?_
  refine ITri.reg pokT ?_; simp -implicitDefEqProofs (disch := first | decide | exact of_eq_true (eq_true rfl) | omega | assumption) only [ ↓vcD, vcE, evs, evP, evB, intsOf, fillC, Value.cells, pt, List.append_nil, List.nil_append, List.cons_append, List.length_cons, List.length_nil, List.filter_nil, List.map_nil, ↓List.getElem?_cons_zero, ↓List.getElem?_cons_succ, List.getElem?_cons_zero, List.getElem?_cons_succ, List.set_cons_zero, List.set_cons_succ, Option.join_some, Option.join_none, Option.map_some, List.all_cons, List.all_nil, Value.oneCell', reduceIte, reduceCtorEq, Nat.reduceEqDiff, Nat.reduceAdd, Nat.reduceMul, Nat.reduceLT, Nat.reduceBEq, Nat.reduceLeDiff, Nat.reduceSub, List.size_toArray]
  refine ⟨_, _, rToolN_f _ (sees0 rfl (of_decide_eq_true rfl)), ?_⟩
  try simp -implicitDefEqProofs (disch := first | decide | exact of_eq_true (eq_true rfl) | omega | assumption) only [ ↓vcD, vcE, evs, evP, evB, intsOf, fillC, Value.cells, pt, List.append_nil, List.nil_append, List.cons_append, List.length_cons, List.length_nil, List.filter_nil, List.map_nil, ↓List.getElem?_cons_zero, ↓List.getElem?_cons_succ, List.getElem?_cons_zero, List.getElem?_cons_succ, List.set_cons_zero, List.set_cons_succ, Option.join_some, Option.join_none, Option.map_some, List.all_cons, List.all_nil, Value.oneCell', reduceIte, reduceCtorEq, Nat.reduceEqDiff, Nat.reduceAdd, Nat.reduceMul, Nat.reduceLT, Nat.reduceBEq, Nat.reduceLeDiff, Nat.reduceSub, List.size_toArray]
  refine ITri.seq ?_
  refine ITri.reg pokT ?_; simp -implicitDefEqProofs (disch := first | decide | exact of_eq_true (eq_true rfl) | omega | assumption) only [ ↓vcD, vcE, evs, evP, evB, intsOf, fillC, Value.cells, pt, List.append_nil, List.nil_append, List.cons_append, List.length_cons, List.length_nil, List.filter_nil, List.map_nil, ↓List.getElem?_cons_zero, ↓List.getElem?_cons_succ, List.getElem?_cons_zero, List.getElem?_cons_succ, List.set_cons_zero, List.set_cons_succ, Option.join_some, Option.join_none, Option.map_some, List.all_cons, List.all_nil, Value.oneCell', reduceIte, reduceCtorEq, Nat.reduceEqDiff, Nat.reduceAdd, Nat.reduceMul, Nat.reduceLT, Nat.reduceBEq, Nat.reduceLeDiff, Nat.reduceSub, List.size_toArray]
  refine ITri.cond (v := true) rfl (fun _ => ?_) (fun h => by cases h)
  refine ITri.seq ?_
  refine ITri.reg pokT ?_; simp -implicitDefEqProofs (disch := first | decide | exact of_eq_true (eq_true rfl) | omega | assumption) only [ ↓vcD, vcE, evs, evP, evB, intsOf, fillC, Value.cells, pt, List.append_nil, List.nil_append, List.cons_append, List.length_cons, List.length_nil, List.filter_nil, List.map_nil, ↓List.getElem?_cons_zero, ↓List.getElem?_cons_succ, List.getElem?_cons_zero, List.getElem?_cons_succ, List.set_cons_zero, List.set_cons_succ, Option.join_some, Option.join_none, Option.map_some, List.all_cons, List.all_nil, Value.oneCell', reduceIte, reduceCtorEq, Nat.reduceEqDiff, Nat.reduceAdd, Nat.reduceMul, Nat.reduceLT, Nat.reduceBEq, Nat.reduceLeDiff, Nat.reduceSub, List.size_toArray]
  refine ITri.ret ?_; exact EndR.plain (vs := [shN, one]) (by simp) (resF_agg 8 rfl (by kernel_rfl) (by simp -implicitDefEqProofs (disch := first | decide | exact of_eq_true (eq_true rfl) | omega | assumption) only [↓vcD, vcE, evs, evP, evB, intsOf, fillC, Value.cells, pt, List.append_nil, List.nil_append, List.cons_append, List.length_cons, List.length_nil, List.filter_nil, List.map_nil, ↓List.getElem?_cons_zero, ↓List.getElem?_cons_succ, List.getElem?_cons_zero, List.getElem?_cons_succ, List.set_cons_zero, List.set_cons_succ, Option.join_some, Option.join_none, Option.map_some, List.all_cons, List.all_nil, Value.oneCell', reduceIte, reduceCtorEq, Nat.reduceEqDiff, Nat.reduceAdd, Nat.reduceMul, Nat.reduceLT, Nat.reduceBEq, Nat.reduceLeDiff, Nat.reduceSub, List.size_toArray]) (resF_tmp rfl resF_nil)) (by rfl) (by rfl)
theorem rStartN_f {n : Nat} {xs : List Int} {s : Value} (a b : Int) {h : AH} (h0 : h.sees 0 = true) (r : Rd h s n (rows eN xs)) : Fc Try.prog 63 [shN, .int .i64 a, .int .i64 b, s] h (.tuple #[shN, one]) h := by
  refine Fc.lift1 (mk := fun ss => [shN, .int .i64 a, .int .i64 b] ++ ss ++ []) (mkv := fun _ => .tuple #[shN, one]) (os := []) (fun c => ?_) (MkL.mid rfl rfl) (MkV.const rfl) (rows_no (f := eN) xs) (fun o ho => by cases ho) h0 r
  show Fc Try.prog 63 [shN, .int .i64 a, .int .i64 b, .slice (some ⟨1, 0, none⟩) n c] (Hp 2 [none, some (.cells ⟨rows eN xs, 0, false⟩)]) (.tuple #[shN, one]) (Hp 2 [none, some (.cells ⟨rows eN xs, 0, false⟩)])
  refine Fc.intro0 fn63 (by simp) rfl rfl ?_; simp only [argF]
  refine ITri.seq ?_
  refine ITri.reg pokT ?_; simp -implicitDefEqProofs (disch := first | decide | exact of_eq_true (eq_true rfl) | omega | assumption) only [ ↓vcD, vcE, evs, evP, evB, intsOf, fillC, Value.cells, pt, List.append_nil, List.nil_append, List.cons_append, List.length_cons, List.length_nil, List.filter_nil, List.map_nil, ↓List.getElem?_cons_zero, ↓List.getElem?_cons_succ, List.getElem?_cons_zero, List.getElem?_cons_succ, List.set_cons_zero, List.set_cons_succ, Option.join_some, Option.join_none, Option.map_some, List.all_cons, List.all_nil, Value.oneCell', reduceIte, reduceCtorEq, Nat.reduceEqDiff, Nat.reduceAdd, Nat.reduceMul, Nat.reduceLT, Nat.reduceBEq, Nat.reduceLeDiff, Nat.reduceSub, List.size_toArray]
  refine ITri.seq ?_
  refine ITri.seq ?_
  refine ITri.reg pokT ?_; simp -implicitDefEqProofs (disch := first | decide | exact of_eq_true (eq_true rfl) | omega | assumption) only [ ↓vcD, vcE, evs, evP, evB, intsOf, fillC, Value.cells, pt, List.append_nil, List.nil_append, List.cons_append, List.length_cons, List.length_nil, List.filter_nil, List.map_nil, ↓List.getElem?_cons_zero, ↓List.getElem?_cons_succ, List.getElem?_cons_zero, List.getElem?_cons_succ, List.set_cons_zero, List.set_cons_succ, Option.join_some, Option.join_none, Option.map_some, List.all_cons, List.all_nil, Value.oneCell', reduceIte, reduceCtorEq, Nat.reduceEqDiff, Nat.reduceAdd, Nat.reduceMul, Nat.reduceLT, Nat.reduceBEq, Nat.reduceLeDiff, Nat.reduceSub, List.size_toArray]
  refine ⟨_, _, rToolN_f _ (sees0 rfl (of_decide_eq_true rfl)), ?_⟩
  try simp -implicitDefEqProofs (disch := first | decide | exact of_eq_true (eq_true rfl) | omega | assumption) only [ ↓vcD, vcE, evs, evP, evB, intsOf, fillC, Value.cells, pt, List.append_nil, List.nil_append, List.cons_append, List.length_cons, List.length_nil, List.filter_nil, List.map_nil, ↓List.getElem?_cons_zero, ↓List.getElem?_cons_succ, List.getElem?_cons_zero, List.getElem?_cons_succ, List.set_cons_zero, List.set_cons_succ, Option.join_some, Option.join_none, Option.map_some, List.all_cons, List.all_nil, Value.oneCell', reduceIte, reduceCtorEq, Nat.reduceEqDiff, Nat.reduceAdd, Nat.reduceMul, Nat.reduceLT, Nat.reduceBEq, Nat.reduceLeDiff, Nat.reduceSub, List.size_toArray]
  refine ITri.seq ?_
  refine ITri.reg pokT ?_; simp -implicitDefEqProofs (disch := first | decide | exact of_eq_true (eq_true rfl) | omega | assumption) only [ ↓vcD, vcE, evs, evP, evB, intsOf, fillC, Value.cells, pt, List.append_nil, List.nil_append, List.cons_append, List.length_cons, List.length_nil, List.filter_nil, List.map_nil, ↓List.getElem?_cons_zero, ↓List.getElem?_cons_succ, List.getElem?_cons_zero, List.getElem?_cons_succ, List.set_cons_zero, List.set_cons_succ, Option.join_some, Option.join_none, Option.map_some, List.all_cons, List.all_nil, Value.oneCell', reduceIte, reduceCtorEq, Nat.reduceEqDiff, Nat.reduceAdd, Nat.reduceMul, Nat.reduceLT, Nat.reduceBEq, Nat.reduceLeDiff, Nat.reduceSub, List.size_toArray]
  refine ITri.cond (v := true) rfl (fun _ => ?_) (fun h => by cases h)
  refine ITri.seq ?_
  refine ITri.reg pokT ?_; simp -implicitDefEqProofs (disch := first | decide | exact of_eq_true (eq_true rfl) | omega | assumption) only [ ↓vcD, vcE, evs, evP, evB, intsOf, fillC, Value.cells, pt, List.append_nil, List.nil_append, List.cons_append, List.length_cons, List.length_nil, List.filter_nil, List.map_nil, ↓List.getElem?_cons_zero, ↓List.getElem?_cons_succ, List.getElem?_cons_zero, List.getElem?_cons_succ, List.set_cons_zero, List.set_cons_succ, Option.join_some, Option.join_none, Option.map_some, List.all_cons, List.all_nil, Value.oneCell', reduceIte, reduceCtorEq, Nat.reduceEqDiff, Nat.reduceAdd, Nat.reduceMul, Nat.reduceLT, Nat.reduceBEq, Nat.reduceLeDiff, Nat.reduceSub, List.size_toArray]
  refine ITri.ret ?_; exact EndR.plain (vs := [shN, one]) (by simp) (resF_agg 8 rfl (by kernel_rfl) (by simp -implicitDefEqProofs (disch := first | decide | exact of_eq_true (eq_true rfl) | omega | assumption) only [↓vcD, vcE, evs, evP, evB, intsOf, fillC, Value.cells, pt, List.append_nil, List.nil_append, List.cons_append, List.length_cons, List.length_nil, List.filter_nil, List.map_nil, ↓List.getElem?_cons_zero, ↓List.getElem?_cons_succ, List.getElem?_cons_zero, List.getElem?_cons_succ, List.set_cons_zero, List.set_cons_succ, Option.join_some, Option.join_none, Option.map_some, List.all_cons, List.all_nil, Value.oneCell', reduceIte, reduceCtorEq, Nat.reduceEqDiff, Nat.reduceAdd, Nat.reduceMul, Nat.reduceLT, Nat.reduceBEq, Nat.reduceLeDiff, Nat.reduceSub, List.size_toArray]) (resF_tmp rfl resF_nil)) (by rfl) (by rfl)
end Go.Proofs.Ytfmcdbcoljpomaa
