/-
  Chapter 11, by names: Aged, and what the reference says of it.
-/
import Derived.Test.YtfmcdbcoljpomaaShopA2
set_option linter.unusedSimpArgs false
set_option linter.unusedVariables false
namespace Go.Proofs.Ytfmcdbcoljpomaa
open Go.RowKit Go.Vm
set_option maxRecDepth 100000
/- boule/shop.Aged · slots 36 · names 0:life 1:wear 2:runs 3:life 4:wear 5:runs 6:maybe 7:surely 8:e 9:first · results [6, 7, 8] -/
def ir18_r0 : IC := .reg [⟨some 3, none, false, .box (.t 0)⟩,
  ⟨some 4, none, false, .box (.t 1)⟩,
  ⟨some 5, none, false, .box (.t 2)⟩,
  ⟨some 6, none, false, .mv (.k (.int .i64 0))⟩,
  ⟨some 7, none, false, .mv (.k (.int .i64 0))⟩,
  ⟨some 8, none, false, .mv (.k (.int .i64 0))⟩] (some [3, 4, 5])
def ir18_r1 : IC := .reg [⟨some 11, none, false, .ldc (.t 5)⟩,
  ⟨some 12, none, false, .len (.t 11)⟩,
  ⟨some 13, none, false, .cmp .gtr (.t 12) (.k (.int .i64 500))⟩,
  ⟨some 14, none, false, .mv (.t 13)⟩,
  ⟨some 15, some (14, false), false, .ldc (.t 4)⟩,
  ⟨some 16, some (14, false), false, .len (.t 15)⟩,
  ⟨some 17, some (14, false), false, .cmp .gtr (.t 16) (.k (.int .i64 8))⟩,
  ⟨some 18, none, false, .pick (.t 14) (.k (.bool true)) (.t 17)⟩,
  ⟨some 10, none, false, .mv (.t 18)⟩] (some [3, 4, 5, 10])
def ir18_r2 : IC := .reg [⟨some 6, none, false, .mv (.k (.int .i64 0))⟩,
  ⟨some 7, none, false, .mv (.k (.int .i64 0))⟩,
  ⟨some 8, none, false, .mv (.k (.int .i64 5))⟩] (some [6, 7, 8])
def ir18_1 : IC := .seq ir18_r2 .ret
def ir18_r3 : IC := .reg [⟨some 20, none, false, .ldc (.t 3)⟩,
  ⟨some 21, none, false, .call (.f 42) [(.t 20), (.k (.int .i64 0)), (.k (.int .i64 1000000))]⟩,
  ⟨some 22, none, false, .not (.t 21)⟩,
  ⟨some 23, none, false, .mv (.t 22)⟩,
  ⟨some 24, some (23, false), false, .ldc (.t 4)⟩,
  ⟨some 25, some (23, false), false, .call (.f 50) [(.t 24), (.f 51)]⟩,
  ⟨some 26, none, false, .pick (.t 23) (.k (.bool true)) (.t 25)⟩,
  ⟨some 19, none, false, .mv (.t 26)⟩] (some [3, 4, 5, 19])
def ir18_r4 : IC := .reg [⟨some 6, none, false, .mv (.k (.int .i64 0))⟩,
  ⟨some 7, none, false, .mv (.k (.int .i64 0))⟩,
  ⟨some 8, none, false, .mv (.k (.int .i64 2))⟩] (some [6, 7, 8])
def ir18_2 : IC := .seq ir18_r4 .ret
def ir18_r5 : IC := .reg [⟨some 28, none, false, .ldc (.t 5)⟩,
  ⟨some 29, none, false, .mkf 52 [] [(.t 4)]⟩,
  ⟨some 30, none, false, .call (.f 44) [(.t 28), (.t 29)]⟩,
  ⟨some 27, none, false, .mv (.t 30)⟩] (some [3, 4, 5, 27])
def ir18_r6 : IC := .reg [⟨some 6, none, false, .mv (.k (.int .i64 0))⟩,
  ⟨some 7, none, false, .mv (.k (.int .i64 0))⟩,
  ⟨some 8, none, false, .mv (.k (.int .i64 7))⟩] (some [6, 7, 8])
def ir18_3 : IC := .seq ir18_r6 .ret
def ir18_4 : IC := .cond (.t 27) ir18_3 .skip
def ir18_5 : IC := .seq ir18_r5 ir18_4
def ir18_6 : IC := .cond (.t 19) ir18_2 ir18_5
def ir18_7 : IC := .seq ir18_r3 ir18_6
def ir18_8 : IC := .cond (.t 10) ir18_1 ir18_7
def ir18_9 : IC := .seq ir18_r1 ir18_8
def ir18_10 : IC := .block 0 ir18_9
def ir18_r7 : IC := .reg [⟨some 31, none, false, .mkf 53 [] [(.t 3), (.t 5), (.t 4)]⟩,
  ⟨some 9, none, false, .mv (.t 31)⟩] (some [9])
def ir18_r8 : IC := .reg [⟨some 32, none, false, .mv (.t 9)⟩,
  ⟨some 33, none, false, .call (.t 32) [(.f 56)]⟩,
  ⟨some 34, none, false, .mv (.t 9)⟩,
  ⟨some 35, none, false, .call (.t 34) [(.f 57)]⟩,
  ⟨some 6, none, false, .mv (.t 33)⟩,
  ⟨some 7, none, false, .mv (.t 35)⟩,
  ⟨some 8, none, false, .mv (.k (.int .i64 0))⟩] (some [6, 7, 8])
def ir18_11 : IC := .seq ir18_r8 .ret
def ir18_12 : IC := .seq ir18_r7 ir18_11
def ir18_13 : IC := .seq ir18_10 ir18_12
def ir18_14 : IC := .seq ir18_r0 ir18_13
def ir18 : IC := ir18_14
theorem fn18 : FnIs Try.prog 18 ir18 36 [.tmp 6, .tmp 7, .tmp 8] := ⟨Try.f18, Try.f18.body.getD .skip, Try.func18, by kernel_rfl, by kernel_rfl, by kernel_rfl, by kernel_rfl⟩
/- boule/bouleref11.Aged · slots 119 · names 0:life 1:wear 2:runs 3:life 4:wear 5:runs 9:i 10:i 11:maybe 12:surely 13:low 14:high 15:i · results [6, 7, 8] -/
def ir19_r0 : IC := .reg [⟨some 6, none, false, .mv (.k (.int .i64 0))⟩,
  ⟨some 7, none, false, .mv (.k (.int .i64 0))⟩,
  ⟨some 8, none, false, .mv (.k (.int .i64 0))⟩] (some [0, 1, 2])
def ir19_r1 : IC := .reg [⟨some 16, none, false, .mv (.t 2)⟩,
  ⟨some 17, none, false, .len (.t 16)⟩,
  ⟨some 18, none, false, .cmp .gtr (.t 17) (.k (.int .i64 500))⟩,
  ⟨some 19, none, false, .mv (.t 18)⟩,
  ⟨some 20, some (19, false), false, .mv (.t 1)⟩,
  ⟨some 21, some (19, false), false, .len (.t 20)⟩,
  ⟨some 22, some (19, false), false, .cmp .gtr (.t 21) (.k (.int .i64 8))⟩,
  ⟨some 23, none, false, .pick (.t 19) (.k (.bool true)) (.t 22)⟩] (some [0, 1, 2, 23])
def ir19_r2 : IC := .reg [⟨some 6, none, false, .mv (.k (.int .i64 0))⟩,
  ⟨some 7, none, false, .mv (.k (.int .i64 0))⟩,
  ⟨some 8, none, false, .mv (.k (.int .i64 5))⟩] (some [6, 7, 8])
def ir19_1 : IC := .seq ir19_r2 .ret
def ir19_2 : IC := .cond (.t 23) ir19_1 .skip
def ir19_3 : IC := .seq ir19_r1 ir19_2
def ir19_r3 : IC := .reg [⟨some 9, none, false, .mv (.k (.int .i64 0))⟩] (some [0, 1, 2, 9])
def ir19_r4 : IC := .reg [⟨some 24, none, false, .mv (.t 9)⟩,
  ⟨some 25, none, false, .mv (.t 1)⟩,
  ⟨some 26, none, false, .len (.t 25)⟩,
  ⟨some 27, none, false, .cmp .lss (.t 24) (.t 26)⟩] (some [0, 1, 2, 9, 27])
def ir19_4 : IC := .cond (.t 27) .skip (.exit 0)
def ir19_5 : IC := .seq ir19_r4 ir19_4
def ir19_r6 : IC := .draw [(⟨some 30, none, false, .mv (.t 1)⟩, false, 0, 0),
  (⟨some 31, none, false, .mv (.t 9)⟩, false, 0, 0),
  (⟨some 32, none, false, .iad 2 (.t 30) (.t 31)⟩, false, 3, 0),
  (⟨some 33, none, false, .fad 0 (.t 32)⟩, false, 7, 0),
  (⟨some 34, none, false, .ldc (.t 33)⟩, true, 15, 1),
  (⟨some 35, none, false, .cmp .lss (.t 34) (.k (.int .i64 0))⟩, false, 31, 0),
  (⟨some 36, none, false, .mv (.t 35)⟩, false, 63, 0),
  (⟨some 37, some (36, false), false, .mv (.t 1)⟩, false, 127, 0),
  (⟨some 38, some (36, false), false, .mv (.t 9)⟩, false, 127, 0),
  (⟨some 39, some (36, false), false, .iad 2 (.t 37) (.t 38)⟩, false, 511, 0),
  (⟨some 40, some (36, false), false, .fad 0 (.t 39)⟩, false, 1023, 0),
  (⟨some 41, some (36, false), false, .ldc (.t 40)⟩, false, 2047, 1),
  (⟨some 42, some (36, false), false, .mv (.t 1)⟩, false, 127, 0),
  (⟨some 43, some (36, false), false, .mv (.t 9)⟩, false, 127, 0),
  (⟨some 44, some (36, false), false, .iad 2 (.t 42) (.t 43)⟩, false, 12415, 0),
  (⟨some 45, some (36, false), false, .fad 1 (.t 44)⟩, false, 28799, 0),
  (⟨some 46, some (36, false), false, .ldc (.t 45)⟩, false, 61567, 2048),
  (⟨some 47, some (36, false), false, .cmp .gtr (.t 41) (.t 46)⟩, false, 131071, 0),
  (⟨some 48, none, false, .pick (.t 36) (.k (.bool true)) (.t 47)⟩, false, 262143, 0),
  (⟨some 49, none, false, .mv (.t 48)⟩, false, 524287, 0),
  (⟨some 50, some (49, false), false, .mv (.t 1)⟩, false, 1048575, 0),
  (⟨some 51, some (49, false), false, .mv (.t 9)⟩, false, 1048575, 0),
  (⟨some 52, some (49, false), false, .iad 2 (.t 50) (.t 51)⟩, false, 4194303, 0),
  (⟨some 53, some (49, false), false, .fad 1 (.t 52)⟩, false, 8388607, 0),
  (⟨some 54, some (49, false), false, .ldc (.t 53)⟩, true, 16777215, 1),
  (⟨some 55, some (49, false), false, .cmp .gtr (.t 54) (.k (.int .i64 1000000))⟩, false, 33554431, 0),
  (⟨some 56, none, false, .pick (.t 49) (.k (.bool true)) (.t 55)⟩, false, 67108863, 0)] (some [0, 1, 2, 9, 56])
def ir19_r7 : IC := .reg [⟨some 6, none, false, .mv (.k (.int .i64 0))⟩,
  ⟨some 7, none, false, .mv (.k (.int .i64 0))⟩,
  ⟨some 8, none, false, .mv (.k (.int .i64 2))⟩] (some [6, 7, 8])
def ir19_6 : IC := .seq ir19_r7 .ret
def ir19_7 : IC := .cond (.t 56) ir19_6 .skip
def ir19_8 : IC := .seq ir19_r6 ir19_7
def ir19_9 : IC := .block 1 ir19_8
def ir19_r5 : IC := .reg [⟨some 28, none, false, .mv (.t 9)⟩,
  ⟨some 29, none, false, .ar .add (.t 28) (.k (.int .i64 1))⟩,
  ⟨some 9, none, false, .mv (.t 29)⟩] (some [0, 1, 2, 9])
def ir19_10 : IC := .seq ir19_9 ir19_r5
def ir19_11 : IC := .seq ir19_5 ir19_10
def ir19_12 : IC := .loop ir19_11
def ir19_13 : IC := .block 0 ir19_12
def ir19_14 : IC := .seq ir19_r3 ir19_13
def ir19_r8 : IC := .reg [⟨some 57, none, false, .mv (.t 0)⟩,
  ⟨some 58, none, false, .call (.f 48) [(.t 57), (.k (.int .i64 0)), (.k (.int .i64 1000000))]⟩,
  ⟨some 59, none, false, .not (.t 58)⟩] (some [0, 1, 2, 59])
def ir19_r9 : IC := .reg [⟨some 6, none, false, .mv (.k (.int .i64 0))⟩,
  ⟨some 7, none, false, .mv (.k (.int .i64 0))⟩,
  ⟨some 8, none, false, .mv (.k (.int .i64 2))⟩] (some [6, 7, 8])
def ir19_15 : IC := .seq ir19_r9 .ret
def ir19_16 : IC := .cond (.t 59) ir19_15 .skip
def ir19_17 : IC := .seq ir19_r8 ir19_16
def ir19_r10 : IC := .reg [⟨some 10, none, false, .mv (.k (.int .i64 0))⟩] (some [0, 1, 2, 10])
def ir19_r11 : IC := .reg [⟨some 60, none, false, .mv (.t 10)⟩,
  ⟨some 61, none, false, .mv (.t 2)⟩,
  ⟨some 62, none, false, .len (.t 61)⟩,
  ⟨some 63, none, false, .cmp .lss (.t 60) (.t 62)⟩] (some [0, 1, 2, 10, 63])
def ir19_18 : IC := .cond (.t 63) .skip (.exit 2)
def ir19_19 : IC := .seq ir19_r11 ir19_18
def ir19_r13 : IC := .reg [⟨some 66, none, false, .mv (.t 2)⟩,
  ⟨some 67, none, false, .mv (.t 10)⟩,
  ⟨some 68, none, false, .iad 1 (.t 66) (.t 67)⟩,
  ⟨some 69, none, false, .ldc (.t 68)⟩,
  ⟨some 70, none, false, .mv (.t 1)⟩,
  ⟨some 71, none, false, .len (.t 70)⟩,
  ⟨some 72, none, false, .ar .sub (.t 71) (.k (.int .i64 1))⟩,
  ⟨some 73, none, false, .call (.f 48) [(.t 69), (.k (.int .i64 0)), (.t 72)]⟩,
  ⟨some 74, none, false, .not (.t 73)⟩] (some [0, 1, 2, 10, 74])
def ir19_r14 : IC := .reg [⟨some 6, none, false, .mv (.k (.int .i64 0))⟩,
  ⟨some 7, none, false, .mv (.k (.int .i64 0))⟩,
  ⟨some 8, none, false, .mv (.k (.int .i64 7))⟩] (some [6, 7, 8])
def ir19_20 : IC := .seq ir19_r14 .ret
def ir19_21 : IC := .cond (.t 74) ir19_20 .skip
def ir19_22 : IC := .seq ir19_r13 ir19_21
def ir19_23 : IC := .block 3 ir19_22
def ir19_r12 : IC := .reg [⟨some 64, none, false, .mv (.t 10)⟩,
  ⟨some 65, none, false, .ar .add (.t 64) (.k (.int .i64 1))⟩,
  ⟨some 10, none, false, .mv (.t 65)⟩] (some [0, 1, 2, 10])
def ir19_24 : IC := .seq ir19_23 ir19_r12
def ir19_25 : IC := .seq ir19_19 ir19_24
def ir19_26 : IC := .loop ir19_25
def ir19_27 : IC := .block 2 ir19_26
def ir19_28 : IC := .seq ir19_r10 ir19_27
def ir19_r15 : IC := .reg [⟨some 11, none, false, .mv (.k (.int .i64 (-1)))⟩,
  ⟨some 12, none, false, .mv (.k (.int .i64 (-1)))⟩,
  ⟨some 13, none, false, .mv (.k (.int .i64 0))⟩,
  ⟨some 14, none, false, .mv (.k (.int .i64 0))⟩] (some [0, 1, 2, 11, 12, 13, 14])
def ir19_r16 : IC := .reg [⟨some 15, none, false, .mv (.k (.int .i64 0))⟩] (some [0, 1, 2, 11, 12, 13, 14, 15])
def ir19_r17 : IC := .reg [⟨some 75, none, false, .mv (.t 15)⟩,
  ⟨some 76, none, false, .mv (.t 2)⟩,
  ⟨some 77, none, false, .len (.t 76)⟩,
  ⟨some 78, none, false, .cmp .lss (.t 75) (.t 77)⟩] (some [0, 1, 2, 11, 12, 13, 14, 15, 78])
def ir19_29 : IC := .cond (.t 78) .skip (.exit 4)
def ir19_30 : IC := .seq ir19_r17 ir19_29
def ir19_r19 : IC := .draw [(⟨some 81, none, false, .mv (.t 13)⟩, false, 0, 0),
  (⟨some 82, none, false, .mv (.t 1)⟩, false, 0, 0),
  (⟨some 83, none, false, .mv (.t 2)⟩, false, 0, 0),
  (⟨some 84, none, false, .mv (.t 15)⟩, false, 0, 0),
  (⟨some 85, none, false, .iad 1 (.t 83) (.t 84)⟩, false, 12, 0),
  (⟨some 86, none, false, .ldc (.t 85)⟩, false, 28, 1),
  (⟨some 87, none, false, .iad 2 (.t 82) (.t 86)⟩, false, 62, 0),
  (⟨some 88, none, false, .fad 0 (.t 87)⟩, false, 126, 0),
  (⟨some 89, none, false, .ldc (.t 88)⟩, false, 254, 1),
  (⟨some 90, none, false, .ar .add (.t 81) (.t 89)⟩, false, 511, 0),
  (⟨some 91, none, false, .mv (.t 14)⟩, false, 0, 0),
  (⟨some 92, none, false, .mv (.t 1)⟩, false, 0, 0),
  (⟨some 93, none, false, .mv (.t 2)⟩, false, 0, 0),
  (⟨some 94, none, false, .mv (.t 15)⟩, false, 0, 0),
  (⟨some 95, none, false, .iad 1 (.t 93) (.t 94)⟩, false, 12288, 0),
  (⟨some 96, none, false, .ldc (.t 95)⟩, false, 28672, 255),
  (⟨some 97, none, false, .iad 2 (.t 92) (.t 96)⟩, false, 63488, 0),
  (⟨some 98, none, false, .fad 1 (.t 97)⟩, false, 129024, 0),
  (⟨some 99, none, false, .ldc (.t 98)⟩, false, 260096, 255),
  (⟨some 100, none, false, .ar .add (.t 91) (.t 99)⟩, false, 523264, 0),
  (⟨some 13, none, false, .mv (.t 90)⟩, false, 1023, 0),
  (⟨some 14, none, false, .mv (.t 100)⟩, false, 2097151, 0)] (some [0, 1, 2, 11, 12, 13, 14, 15])
def ir19_r20 : IC := .reg [⟨some 101, none, false, .mv (.t 14)⟩,
  ⟨some 102, none, false, .mv (.t 0)⟩,
  ⟨some 103, none, false, .cmp .gtr (.t 101) (.t 102)⟩,
  ⟨some 104, none, false, .mv (.t 103)⟩,
  ⟨some 105, some (104, true), false, .mv (.t 11)⟩,
  ⟨some 106, some (104, true), false, .cmp .lss (.t 105) (.k (.int .i64 0))⟩,
  ⟨some 107, none, false, .pick (.t 104) (.t 106) (.k (.bool false))⟩] (some [0, 1, 2, 11, 12, 13, 14, 15, 107])
def ir19_r21 : IC := .reg [⟨some 108, none, false, .mv (.t 15)⟩,
  ⟨some 11, none, false, .mv (.t 108)⟩] (some [0, 1, 2, 11, 12, 13, 14, 15])
def ir19_31 : IC := .cond (.t 107) ir19_r21 .skip
def ir19_32 : IC := .seq ir19_r20 ir19_31
def ir19_r22 : IC := .reg [⟨some 109, none, false, .mv (.t 13)⟩,
  ⟨some 110, none, false, .mv (.t 0)⟩,
  ⟨some 111, none, false, .cmp .gtr (.t 109) (.t 110)⟩,
  ⟨some 112, none, false, .mv (.t 111)⟩,
  ⟨some 113, some (112, true), false, .mv (.t 12)⟩,
  ⟨some 114, some (112, true), false, .cmp .lss (.t 113) (.k (.int .i64 0))⟩,
  ⟨some 115, none, false, .pick (.t 112) (.t 114) (.k (.bool false))⟩] (some [0, 1, 2, 11, 12, 13, 14, 15, 115])
def ir19_r23 : IC := .reg [⟨some 116, none, false, .mv (.t 15)⟩,
  ⟨some 12, none, false, .mv (.t 116)⟩] (some [0, 1, 2, 11, 12, 13, 14, 15])
def ir19_33 : IC := .cond (.t 115) ir19_r23 .skip
def ir19_34 : IC := .seq ir19_r22 ir19_33
def ir19_35 : IC := .seq ir19_32 ir19_34
def ir19_36 : IC := .seq ir19_r19 ir19_35
def ir19_37 : IC := .block 5 ir19_36
def ir19_r18 : IC := .reg [⟨some 79, none, false, .mv (.t 15)⟩,
  ⟨some 80, none, false, .ar .add (.t 79) (.k (.int .i64 1))⟩,
  ⟨some 15, none, false, .mv (.t 80)⟩] (some [0, 1, 2, 11, 12, 13, 14, 15])
def ir19_38 : IC := .seq ir19_37 ir19_r18
def ir19_39 : IC := .seq ir19_30 ir19_38
def ir19_40 : IC := .loop ir19_39
def ir19_41 : IC := .block 4 ir19_40
def ir19_42 : IC := .seq ir19_r16 ir19_41
def ir19_r24 : IC := .reg [⟨some 117, none, false, .mv (.t 11)⟩,
  ⟨some 118, none, false, .mv (.t 12)⟩,
  ⟨some 6, none, false, .mv (.t 117)⟩,
  ⟨some 7, none, false, .mv (.t 118)⟩,
  ⟨some 8, none, false, .mv (.k (.int .i64 0))⟩] (some [6, 7, 8])
def ir19_43 : IC := .seq ir19_r24 .ret
def ir19_44 : IC := .seq ir19_42 ir19_43
def ir19_45 : IC := .seq ir19_r15 ir19_44
def ir19_46 : IC := .seq ir19_28 ir19_45
def ir19_47 : IC := .seq ir19_17 ir19_46
def ir19_48 : IC := .seq ir19_14 ir19_47
def ir19_49 : IC := .seq ir19_3 ir19_48
def ir19_50 : IC := .seq ir19_r0 ir19_49
def ir19 : IC := ir19_50
theorem fn19 : FnIs Try.prog 19 ir19 119 [.tmp 6, .tmp 7, .tmp 8] := ⟨Try.f19, Try.f19.body.getD .skip, Try.func19, by kernel_rfl, by kernel_rfl, by kernel_rfl, by kernel_rfl⟩
/-- What Aged returns. -/
def agP (g : Rg → Int) (life : Int) (wear : List Rg) (runs : List Int) : Int := ovI (fun k => decide (life - sW g wear runs (k + 1) < 0)) runs.length
def agE (life : Int) (wear : List Rg) (runs : List Int) : Int :=
  if 500 < runs.length ∨ 8 < wear.length then 5 else if inT life 0 1000000 = false ∨ wear.any badR = true then 2 else if (runs.any fun k => !inT k 0 (wear.length - 1)) = true then 7 else 0
def agF (life : Int) (wear : List Rg) (runs : List Int) : Int × Int × Int :=
  if agE life wear runs = 0 then (agP (·.2) life wear runs, agP (·.1) life wear runs, 0) else (0, 0, agE life wear runs)
theorem ag_ok {life : Int} {wear : List Rg} {runs : List Int} (h : agE life wear runs = 0) : runs.length ≤ 500 ∧ wear.length ≤ 8 ∧ (0 ≤ life ∧ life ≤ 1000000) ∧ (∀ r ∈ wear, 0 ≤ r.1 ∧ r.1 ≤ r.2 ∧ r.2 ≤ 1000000) ∧ ∀ k ∈ runs, 0 ≤ k ∧ k < wear.length := by
  unfold agE at h
  split at h
  · cases h
  · rename_i h1
    split at h
    · cases h
    · rename_i h2
      split at h
      · cases h
      · rename_i h3
        have q1 : inT life 0 1000000 = true := by
          cases hc : inT life 0 1000000 with
          | true => rfl
          | false => exact absurd (.inl hc) h2
        have q2 : wear.any badR = false := by
          cases hc : wear.any badR with
          | false => rfl
          | true => exact absurd (.inr hc) h2
        have q3 : (runs.any fun k => !inT k 0 (wear.length - 1)) = false := by simpa using h3
        refine ⟨by omega, by omega, inT_ok q1, fun r hr => badR_no (by simpa using List.any_eq_false.1 q2 r hr), fun k hk => ?_⟩
        have := List.any_eq_false.1 q3 k hk
        have := inT_ok (n := k) (a := 0) (b := (wear.length : Int) - 1) (by simpa using this)
        omega
abbrev v3 (q : Int × Int × Int) : Value := .tuple #[.int .i64 q.1, .int .i64 q.2.1, .int .i64 q.2.2]
theorem aged_c (nw cw nr cr : Nat) (life : Int) (wear : List Rg) (runs : List Int) (hw : wear.length = nw) (hr : runs.length = nr) (hb : nw ≤ 1000000) (hb2 : nr ≤ 1000000) :
    Fc Try.prog 18 [.int .i64 life, .slice (some ⟨1, 0, none⟩) nw cw, .slice (some ⟨2, 0, none⟩) nr cr] (Hp 3 [none, some (.cells ⟨rows eR wear, 0, false⟩), some (.cells ⟨rows eN runs, 0, false⟩)]) (v3 (agF life wear runs)) (Hp 3 [none, some (.cells ⟨rows eR wear, 0, false⟩), some (.cells ⟨rows eN runs, 0, false⟩)]) := by
  refine Fc.intro0 fn18 (by simp) rfl rfl ?_; simp only [argF]
  have hF : ∀ e, e ≠ 0 → agE life wear runs = e → agF life wear runs = (0, 0, e) := fun e h0 h => by
    unfold agF
    rw [if_neg (by rw [h]; exact h0), h]
  refine ITri.seq ?_
  refine ITri.reg pokT ?_; simp -implicitDefEqProofs (disch := first | decide | exact of_eq_true (eq_true rfl) | omega | assumption) only [ ↓vcD, vcE, evs, evP, evB, intsOf, fillC, Value.cells, pt, List.append_nil, List.nil_append, List.cons_append, List.length_cons, List.length_nil, List.filter_nil, List.map_nil, ↓List.getElem?_cons_zero, ↓List.getElem?_cons_succ, List.getElem?_cons_zero, List.getElem?_cons_succ, List.set_cons_zero, List.set_cons_succ, Option.join_some, Option.join_none, Option.map_some, List.all_cons, List.all_nil, Value.oneCell', reduceIte, reduceCtorEq, Nat.reduceEqDiff, Nat.reduceAdd, Nat.reduceMul, Nat.reduceLT, Nat.reduceBEq, Nat.reduceLeDiff, Nat.reduceSub, List.size_toArray] -- r0
  refine ITri.seq ?_
  refine ITri.block ?_ -- 0
  refine ITri.seq ?_
  by_cases g1 : (500 : Int) < nr
  · have e0 := hF 5 (by decide) (by unfold agE; rw [if_pos (.inl (by omega))])
    rw [e0]
    refine ITri.reg pokT ?_; simp -implicitDefEqProofs (disch := first | decide | exact of_eq_true (eq_true rfl) | omega | assumption) only [g1, decide_true,  ↓vcD, vcE, evs, evP, evB, intsOf, fillC, Value.cells, pt, List.append_nil, List.nil_append, List.cons_append, List.length_cons, List.length_nil, List.filter_nil, List.map_nil, ↓List.getElem?_cons_zero, ↓List.getElem?_cons_succ, List.getElem?_cons_zero, List.getElem?_cons_succ, List.set_cons_zero, List.set_cons_succ, Option.join_some, Option.join_none, Option.map_some, List.all_cons, List.all_nil, Value.oneCell', reduceIte, reduceCtorEq, Nat.reduceEqDiff, Nat.reduceAdd, Nat.reduceMul, Nat.reduceLT, Nat.reduceBEq, Nat.reduceLeDiff, Nat.reduceSub, List.size_toArray]
    refine ITri.cond (v := true) rfl (fun _ => ?_) (fun h => by cases h)
    refine ITri.seq ?_
    refine ITri.reg pokT ?_; simp -implicitDefEqProofs (disch := first | decide | exact of_eq_true (eq_true rfl) | omega | assumption) only [ ↓vcD, vcE, evs, evP, evB, intsOf, fillC, Value.cells, pt, List.append_nil, List.nil_append, List.cons_append, List.length_cons, List.length_nil, List.filter_nil, List.map_nil, ↓List.getElem?_cons_zero, ↓List.getElem?_cons_succ, List.getElem?_cons_zero, List.getElem?_cons_succ, List.set_cons_zero, List.set_cons_succ, Option.join_some, Option.join_none, Option.map_some, List.all_cons, List.all_nil, Value.oneCell', reduceIte, reduceCtorEq, Nat.reduceEqDiff, Nat.reduceAdd, Nat.reduceMul, Nat.reduceLT, Nat.reduceBEq, Nat.reduceLeDiff, Nat.reduceSub, List.size_toArray]
    refine ITri.ret ?_; exact EndR.plain (vs := [.int .i64 0, .int .i64 0, .int .i64 5]) (by simp) (by rfl) (by rfl) (by rfl)
  by_cases g2 : (8 : Int) < nw
  · have e0 := hF 5 (by decide) (by unfold agE; rw [if_pos (.inr (by omega))])
    rw [e0]
    refine ITri.reg pokT ?_; simp -implicitDefEqProofs (disch := first | decide | exact of_eq_true (eq_true rfl) | omega | assumption) only [g1, g2, decide_true, decide_false,  ↓vcD, vcE, evs, evP, evB, intsOf, fillC, Value.cells, pt, List.append_nil, List.nil_append, List.cons_append, List.length_cons, List.length_nil, List.filter_nil, List.map_nil, ↓List.getElem?_cons_zero, ↓List.getElem?_cons_succ, List.getElem?_cons_zero, List.getElem?_cons_succ, List.set_cons_zero, List.set_cons_succ, Option.join_some, Option.join_none, Option.map_some, List.all_cons, List.all_nil, Value.oneCell', reduceIte, reduceCtorEq, Nat.reduceEqDiff, Nat.reduceAdd, Nat.reduceMul, Nat.reduceLT, Nat.reduceBEq, Nat.reduceLeDiff, Nat.reduceSub, List.size_toArray]
    refine ITri.cond (v := true) rfl (fun _ => ?_) (fun h => by cases h)
    refine ITri.seq ?_
    refine ITri.reg pokT ?_; simp -implicitDefEqProofs (disch := first | decide | exact of_eq_true (eq_true rfl) | omega | assumption) only [ ↓vcD, vcE, evs, evP, evB, intsOf, fillC, Value.cells, pt, List.append_nil, List.nil_append, List.cons_append, List.length_cons, List.length_nil, List.filter_nil, List.map_nil, ↓List.getElem?_cons_zero, ↓List.getElem?_cons_succ, List.getElem?_cons_zero, List.getElem?_cons_succ, List.set_cons_zero, List.set_cons_succ, Option.join_some, Option.join_none, Option.map_some, List.all_cons, List.all_nil, Value.oneCell', reduceIte, reduceCtorEq, Nat.reduceEqDiff, Nat.reduceAdd, Nat.reduceMul, Nat.reduceLT, Nat.reduceBEq, Nat.reduceLeDiff, Nat.reduceSub, List.size_toArray]
    refine ITri.ret ?_; exact EndR.plain (vs := [.int .i64 0, .int .i64 0, .int .i64 5]) (by simp) (by rfl) (by rfl) (by rfl)
  have f1 : agE life wear runs = _ := if_neg (show ¬ (500 < runs.length ∨ 8 < wear.length) by omega)
  refine ITri.reg pokT ?_; simp -implicitDefEqProofs (disch := first | decide | exact of_eq_true (eq_true rfl) | omega | assumption) only [g1, g2, decide_true, decide_false,  ↓vcD, vcE, evs, evP, evB, intsOf, fillC, Value.cells, pt, List.append_nil, List.nil_append, List.cons_append, List.length_cons, List.length_nil, List.filter_nil, List.map_nil, ↓List.getElem?_cons_zero, ↓List.getElem?_cons_succ, List.getElem?_cons_zero, List.getElem?_cons_succ, List.set_cons_zero, List.set_cons_succ, Option.join_some, Option.join_none, Option.map_some, List.all_cons, List.all_nil, Value.oneCell', reduceIte, reduceCtorEq, Nat.reduceEqDiff, Nat.reduceAdd, Nat.reduceMul, Nat.reduceLT, Nat.reduceBEq, Nat.reduceLeDiff, Nat.reduceSub, List.size_toArray]
  refine ITri.cond (v := false) rfl (fun h => by cases h) (fun _ => ?_)
  refine ITri.seq ?_
  refine ITri.reg pokT ?_; simp -implicitDefEqProofs (disch := first | decide | exact of_eq_true (eq_true rfl) | omega | assumption) only [ ↓vcD, vcE, evs, evP, evB, intsOf, fillC, Value.cells, pt, List.append_nil, List.nil_append, List.cons_append, List.length_cons, List.length_nil, List.filter_nil, List.map_nil, ↓List.getElem?_cons_zero, ↓List.getElem?_cons_succ, List.getElem?_cons_zero, List.getElem?_cons_succ, List.set_cons_zero, List.set_cons_succ, Option.join_some, Option.join_none, Option.map_some, List.all_cons, List.all_nil, Value.oneCell', reduceIte, reduceCtorEq, Nat.reduceEqDiff, Nat.reduceAdd, Nat.reduceMul, Nat.reduceLT, Nat.reduceBEq, Nat.reduceLeDiff, Nat.reduceSub, List.size_toArray]
  refine ⟨_, _, in_f _ _ _ (sees0 rfl (of_decide_eq_true rfl)), ?_⟩
  cases g3 : inT life 0 1000000 with
  | false =>
    have e0 := hF 2 (by decide) (by rw [f1, if_pos (.inl g3)])
    rw [e0]
    simp -implicitDefEqProofs (disch := first | decide | exact of_eq_true (eq_true rfl) | omega | assumption) only [g3,  ↓vcD, vcE, evs, evP, evB, intsOf, fillC, Value.cells, pt, List.append_nil, List.nil_append, List.cons_append, List.length_cons, List.length_nil, List.filter_nil, List.map_nil, ↓List.getElem?_cons_zero, ↓List.getElem?_cons_succ, List.getElem?_cons_zero, List.getElem?_cons_succ, List.set_cons_zero, List.set_cons_succ, Option.join_some, Option.join_none, Option.map_some, List.all_cons, List.all_nil, Value.oneCell', reduceIte, reduceCtorEq, Nat.reduceEqDiff, Nat.reduceAdd, Nat.reduceMul, Nat.reduceLT, Nat.reduceBEq, Nat.reduceLeDiff, Nat.reduceSub, List.size_toArray]
    refine ITri.cond (v := true) rfl (fun _ => ?_) (fun h => by cases h)
    refine ITri.seq ?_
    refine ITri.reg pokT ?_; simp -implicitDefEqProofs (disch := first | decide | exact of_eq_true (eq_true rfl) | omega | assumption) only [ ↓vcD, vcE, evs, evP, evB, intsOf, fillC, Value.cells, pt, List.append_nil, List.nil_append, List.cons_append, List.length_cons, List.length_nil, List.filter_nil, List.map_nil, ↓List.getElem?_cons_zero, ↓List.getElem?_cons_succ, List.getElem?_cons_zero, List.getElem?_cons_succ, List.set_cons_zero, List.set_cons_succ, Option.join_some, Option.join_none, Option.map_some, List.all_cons, List.all_nil, Value.oneCell', reduceIte, reduceCtorEq, Nat.reduceEqDiff, Nat.reduceAdd, Nat.reduceMul, Nat.reduceLT, Nat.reduceBEq, Nat.reduceLeDiff, Nat.reduceSub, List.size_toArray]
    refine ITri.ret ?_; exact EndR.plain (vs := [.int .i64 0, .int .i64 0, .int .i64 2]) (by simp) (by rfl) (by rfl) (by rfl)
  | true =>
  simp -implicitDefEqProofs (disch := first | decide | exact of_eq_true (eq_true rfl) | omega | assumption) only [g3,  ↓vcD, vcE, evs, evP, evB, intsOf, fillC, Value.cells, pt, List.append_nil, List.nil_append, List.cons_append, List.length_cons, List.length_nil, List.filter_nil, List.map_nil, ↓List.getElem?_cons_zero, ↓List.getElem?_cons_succ, List.getElem?_cons_zero, List.getElem?_cons_succ, List.set_cons_zero, List.set_cons_succ, Option.join_some, Option.join_none, Option.map_some, List.all_cons, List.all_nil, Value.oneCell', reduceIte, reduceCtorEq, Nat.reduceEqDiff, Nat.reduceAdd, Nat.reduceMul, Nat.reduceLT, Nat.reduceBEq, Nat.reduceLeDiff, Nat.reduceSub, List.size_toArray]
  refine ⟨_, _, containsR_x (wl := 3) (ks := 1) (c := cw) (sz := 0) (op := false) (ag6 nw cw nr cr life wear runs) hw hb (by simp) rfl, ?_⟩
  cases g4 : wear.any badR with
  | true =>
    have e0 := hF 2 (by decide) (by rw [f1, if_pos (.inr g4)])
    rw [e0]
    refine ITri.cond (v := true) rfl (fun _ => ?_) (fun h => by cases h)
    refine ITri.seq ?_
    refine ITri.reg pokT ?_; simp -implicitDefEqProofs (disch := first | decide | exact of_eq_true (eq_true rfl) | omega | assumption) only [ ↓vcD, vcE, evs, evP, evB, intsOf, fillC, Value.cells, pt, List.append_nil, List.nil_append, List.cons_append, List.length_cons, List.length_nil, List.filter_nil, List.map_nil, ↓List.getElem?_cons_zero, ↓List.getElem?_cons_succ, List.getElem?_cons_zero, List.getElem?_cons_succ, List.set_cons_zero, List.set_cons_succ, Option.join_some, Option.join_none, Option.map_some, List.all_cons, List.all_nil, Value.oneCell', reduceIte, reduceCtorEq, Nat.reduceEqDiff, Nat.reduceAdd, Nat.reduceMul, Nat.reduceLT, Nat.reduceBEq, Nat.reduceLeDiff, Nat.reduceSub, List.size_toArray]
    refine ITri.ret ?_; exact EndR.plain (vs := [.int .i64 0, .int .i64 0, .int .i64 2]) (by simp) (by rfl) (by rfl) (by rfl)
  | false =>
  rw [if_neg (by rw [g3, g4]; simp)] at f1
  refine ITri.cond (v := false) rfl (fun h => by cases h) (fun _ => ?_)
  refine ITri.seq ?_
  refine ITri.reg pokT ?_; simp -implicitDefEqProofs (disch := first | decide | exact of_eq_true (eq_true rfl) | omega | assumption) only [ ↓vcD, vcE, evs, evP, evB, intsOf, fillC, Value.cells, pt, List.append_nil, List.nil_append, List.cons_append, List.length_cons, List.length_nil, List.filter_nil, List.map_nil, ↓List.getElem?_cons_zero, ↓List.getElem?_cons_succ, List.getElem?_cons_zero, List.getElem?_cons_succ, List.set_cons_zero, List.set_cons_succ, Option.join_some, Option.join_none, Option.map_some, List.all_cons, List.all_nil, Value.oneCell', reduceIte, reduceCtorEq, Nat.reduceEqDiff, Nat.reduceAdd, Nat.reduceMul, Nat.reduceLT, Nat.reduceBEq, Nat.reduceLeDiff, Nat.reduceSub, List.size_toArray]
  refine ⟨_, _, containsI_x nw cw nr cr life wear runs hr hb hb2, ?_⟩
  have ew : (wear.length : Int) = nw := by omega
  rw [ew] at f1
  cases g5 : (runs.any fun k => !inT k 0 ((nw : Int) - 1)) with
  | true =>
    have e0 := hF 7 (by decide) (by rw [f1, if_pos g5])
    rw [e0]
    refine ITri.cond (v := true) rfl (fun _ => ?_) (fun h => by cases h)
    refine ITri.seq ?_
    refine ITri.reg pokT ?_; simp -implicitDefEqProofs (disch := first | decide | exact of_eq_true (eq_true rfl) | omega | assumption) only [ ↓vcD, vcE, evs, evP, evB, intsOf, fillC, Value.cells, pt, List.append_nil, List.nil_append, List.cons_append, List.length_cons, List.length_nil, List.filter_nil, List.map_nil, ↓List.getElem?_cons_zero, ↓List.getElem?_cons_succ, List.getElem?_cons_zero, List.getElem?_cons_succ, List.set_cons_zero, List.set_cons_succ, Option.join_some, Option.join_none, Option.map_some, List.all_cons, List.all_nil, Value.oneCell', reduceIte, reduceCtorEq, Nat.reduceEqDiff, Nat.reduceAdd, Nat.reduceMul, Nat.reduceLT, Nat.reduceBEq, Nat.reduceLeDiff, Nat.reduceSub, List.size_toArray]
    refine ITri.ret ?_; exact EndR.plain (vs := [.int .i64 0, .int .i64 0, .int .i64 7]) (by simp) (by rfl) (by rfl) (by rfl)
  | false =>
  rw [if_neg (by rw [g5]; simp)] at f1
  obtain ⟨_, _, a3, a4, a5⟩ := ag_ok f1
  have e0 : agF life wear runs = (agP (·.2) life wear runs, agP (·.1) life wear runs, 0) := if_pos f1
  rw [e0]
  refine ITri.cond (v := false) rfl (fun h => by cases h) (fun _ => ?_); refine ITri.skip ?_; simp only [SeqQ_normal, BlkQ_normal]
  refine ITri.seq ?_
  refine ITri.reg pokT ?_; simp -implicitDefEqProofs (disch := first | decide | exact of_eq_true (eq_true rfl) | omega | assumption) only [ ↓vcD, vcE, evs, evP, evB, intsOf, fillC, Value.cells, pt, List.append_nil, List.nil_append, List.cons_append, List.length_cons, List.length_nil, List.filter_nil, List.map_nil, ↓List.getElem?_cons_zero, ↓List.getElem?_cons_succ, List.getElem?_cons_zero, List.getElem?_cons_succ, List.set_cons_zero, List.set_cons_succ, Option.join_some, Option.join_none, Option.map_some, List.all_cons, List.all_nil, Value.oneCell', reduceIte, reduceCtorEq, Nat.reduceEqDiff, Nat.reduceAdd, Nat.reduceMul, Nat.reduceLT, Nat.reduceBEq, Nat.reduceLeDiff, Nat.reduceSub, List.size_toArray] -- r7
  have hk : ∀ k ∈ runs, 0 ≤ k ∧ k < (nw : Int) := fun k hk => by have := a5 k hk; omega
  have H1 := first_x nw cw nr cr life wear runs 56 (first_c nw cw nr cr life wear runs 56 (·.2) hw hr (by omega) a3 (fun r hr => by have := a4 r hr; omega) hk (fun r {h} hs => high_f r hs))
  have H2 := first_x nw cw nr cr life wear runs 57 (first_c nw cw nr cr life wear runs 57 (·.1) hw hr (by omega) a3 (fun r hr => by have := a4 r hr; omega) hk (fun r {h} hs => low_f r hs))
  refine ITri.seq ?_
  refine ITri.reg pokT ?_; simp -implicitDefEqProofs (disch := first | decide | exact of_eq_true (eq_true rfl) | omega | assumption) only [ ↓vcD, vcE, evs, evP, evB, intsOf, fillC, Value.cells, pt, List.append_nil, List.nil_append, List.cons_append, List.length_cons, List.length_nil, List.filter_nil, List.map_nil, ↓List.getElem?_cons_zero, ↓List.getElem?_cons_succ, List.getElem?_cons_zero, List.getElem?_cons_succ, List.set_cons_zero, List.set_cons_succ, Option.join_some, Option.join_none, Option.map_some, List.all_cons, List.all_nil, Value.oneCell', reduceIte, reduceCtorEq, Nat.reduceEqDiff, Nat.reduceAdd, Nat.reduceMul, Nat.reduceLT, Nat.reduceBEq, Nat.reduceLeDiff, Nat.reduceSub, List.size_toArray] -- r8
  refine ⟨_, _, H1, ?_⟩
  try simp -implicitDefEqProofs (disch := first | decide | exact of_eq_true (eq_true rfl) | omega | assumption) only [ ↓vcD, vcE, evs, evP, evB, intsOf, fillC, Value.cells, pt, List.append_nil, List.nil_append, List.cons_append, List.length_cons, List.length_nil, List.filter_nil, List.map_nil, ↓List.getElem?_cons_zero, ↓List.getElem?_cons_succ, List.getElem?_cons_zero, List.getElem?_cons_succ, List.set_cons_zero, List.set_cons_succ, Option.join_some, Option.join_none, Option.map_some, List.all_cons, List.all_nil, Value.oneCell', reduceIte, reduceCtorEq, Nat.reduceEqDiff, Nat.reduceAdd, Nat.reduceMul, Nat.reduceLT, Nat.reduceBEq, Nat.reduceLeDiff, Nat.reduceSub, List.size_toArray]
  refine ⟨_, _, H2, ?_⟩
  try simp -implicitDefEqProofs (disch := first | decide | exact of_eq_true (eq_true rfl) | omega | assumption) only [ ↓vcD, vcE, evs, evP, evB, intsOf, fillC, Value.cells, pt, List.append_nil, List.nil_append, List.cons_append, List.length_cons, List.length_nil, List.filter_nil, List.map_nil, ↓List.getElem?_cons_zero, ↓List.getElem?_cons_succ, List.getElem?_cons_zero, List.getElem?_cons_succ, List.set_cons_zero, List.set_cons_succ, Option.join_some, Option.join_none, Option.map_some, List.all_cons, List.all_nil, Value.oneCell', reduceIte, reduceCtorEq, Nat.reduceEqDiff, Nat.reduceAdd, Nat.reduceMul, Nat.reduceLT, Nat.reduceBEq, Nat.reduceLeDiff, Nat.reduceSub, List.size_toArray]
  unfold agP
  rw [hr]
  refine ITri.ret ?_; exact EndR.plain (vs := [.int .i64 _, .int .i64 _, .int .i64 0]) (by simp) (by rfl) (by rfl) (by rfl)
theorem aged_f (nw nr : Nat) (life : Int) (wear : List Rg) (runs : List Int) (hw : wear.length = nw) (hr : runs.length = nr) (hb : nw ≤ 1000000) (hb2 : nr ≤ 1000000) {h : AH} {s t : Value} (h0 : h.sees 0 = true) (r : Rd h s nw (rows eR wear)) (r2 : Rd h t nr (rows eN runs)) :
    Fc Try.prog 18 [.int .i64 life, s, t] h (v3 (agF life wear runs)) h :=
  Fc.lift2 (mk := fun ss => [.int .i64 life] ++ ss ++ []) (mkv := fun _ => v3 (agF life wear runs)) (os := []) (fun c d => aged_c nw c nr d life wear runs hw hr hb hb2) (MkL.mid rfl rfl) (MkV.const rfl) (rows_no (f := eR) wear) (rows_no (f := eN) runs) (fun o ho => by cases ho) h0 r r2
end Go.Proofs.Ytfmcdbcoljpomaa
