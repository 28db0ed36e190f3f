/-
  Chapter 11 at the top: the law TopWorn.
-/
import Derived.Test.YthoigkgjidcklaaWoK
set_option linter.unusedSimpArgs false
set_option linter.unusedVariables false
namespace Go.Proofs.Ythoigkgjidcklaa
open Go.RowKit Go.Vm
set_option maxRecDepth 100000
theorem bit_ok : ∀ n, n < 9 → ∀ k, k < n → btI .and .i64 (shI .shr .i64 (rcpI n) (k : Nat)) 1 = 1 := by decide
/- boule/bouletop.TopWorn · slots 201 · names 0:wear 1:life 2:runs 3:wear 4:life 5:runs 7:w 8:kinds 9:route 10:i 11:i 12:maybe 13:surely 14:e 15:s 16:ok 17:i 18:e 19:x · results [6] -/
def ir5_r0 : IC := .reg [⟨some 6, none, false, .mv (.k (.bool false))⟩] (some [0, 1, 2])
def ir5_r1 : IC := .reg [⟨some 20, none, false, .mv (.t 0)⟩,
  ⟨some 21, none, false, .len (.t 20)⟩,
  ⟨some 22, none, false, .cmp .eql (.t 21) (.k (.int .i64 0))⟩,
  ⟨some 23, none, false, .mv (.t 22)⟩,
  ⟨some 24, some (23, false), false, .mv (.t 0)⟩,
  ⟨some 25, some (23, false), false, .len (.t 24)⟩,
  ⟨some 26, some (23, false), false, .cmp .gtr (.t 25) (.k (.int .i64 8))⟩,
  ⟨some 27, none, false, .pick (.t 23) (.k (.bool true)) (.t 26)⟩,
  ⟨some 28, none, false, .mv (.t 27)⟩,
  ⟨some 29, some (28, false), false, .mv (.t 2)⟩,
  ⟨some 30, some (28, false), false, .len (.t 29)⟩,
  ⟨some 31, some (28, false), false, .cmp .eql (.t 30) (.k (.int .i64 0))⟩,
  ⟨some 32, none, false, .pick (.t 28) (.k (.bool true)) (.t 31)⟩,
  ⟨some 33, none, false, .mv (.t 32)⟩,
  ⟨some 34, some (33, false), false, .mv (.t 2)⟩,
  ⟨some 35, some (33, false), false, .len (.t 34)⟩,
  ⟨some 36, some (33, false), false, .cmp .gtr (.t 35) (.k (.int .i64 12))⟩,
  ⟨some 37, none, false, .pick (.t 33) (.k (.bool true)) (.t 36)⟩] (some [0, 1, 2, 37])
def ir5_r2 : IC := .reg [⟨some 38, none, false, .call (.f 18) []⟩,
  ⟨some 6, none, false, .mv (.t 38)⟩] (some [6])
def ir5_1 : IC := .seq ir5_r2 .ret
def ir5_2 : IC := .cond (.t 37) ir5_1 .skip
def ir5_3 : IC := .seq ir5_r1 ir5_2
def ir5_r3 : IC := .reg [⟨some 39, none, false, .bsl 1 0 [] []⟩,
  ⟨some 40, none, false, .bsl 2 0 [] []⟩,
  ⟨some 41, none, false, .bsl 1 0 [] []⟩,
  ⟨some 7, none, false, .mv (.t 39)⟩,
  ⟨some 8, none, false, .mv (.t 40)⟩,
  ⟨some 9, none, false, .mv (.t 41)⟩] (some [0, 1, 2, 7, 8, 9])
def ir5_r4 : IC := .reg [⟨some 10, none, false, .mv (.k (.int .i64 0))⟩] (some [0, 1, 2, 7, 8, 9, 10])
def ir5_r5 : IC := .reg [⟨some 42, none, false, .mv (.t 10)⟩,
  ⟨some 43, none, false, .mv (.t 0)⟩,
  ⟨some 44, none, false, .len (.t 43)⟩,
  ⟨some 45, none, false, .cmp .lss (.t 42) (.t 44)⟩] (some [0, 1, 2, 7, 8, 9, 10, 45])
def ir5_4 : IC := .cond (.t 45) .skip (.exit 0)
def ir5_5 : IC := .seq ir5_r5 ir5_4
def ir5_r7 : IC := .draw [(⟨some 48, none, false, .mv (.t 7)⟩, false, 0, 0),
  (⟨some 49, none, false, .mv (.t 0)⟩, false, 0, 0),
  (⟨some 50, none, false, .mv (.t 10)⟩, false, 0, 0),
  (⟨some 51, none, false, .iad 1 (.t 49) (.t 50)⟩, false, 6, 0),
  (⟨some 52, none, false, .ldc (.t 51)⟩, false, 14, 2097281),
  (⟨some 53, none, false, .conv .i64 (.t 52)⟩, false, 30, 0),
  (⟨some 54, none, false, .bsl 1 1 [(.int .i64 0)] [(0, (.t 53))]⟩, false, 62, 2097281),
  (⟨some 55, none, false, .app 1 8 (.t 48) (.t 54)⟩, false, 127, 2097281),
  (⟨some 56, none, false, .mv (.t 8)⟩, false, 0, 0),
  (⟨some 57, none, false, .mv (.t 0)⟩, false, 0, 0),
  (⟨some 58, none, false, .mv (.t 10)⟩, false, 0, 0),
  (⟨some 59, none, false, .iad 1 (.t 57) (.t 58)⟩, false, 1536, 0),
  (⟨some 60, none, false, .ldc (.t 59)⟩, false, 3584, 2097408),
  (⟨some 61, none, false, .conv .i64 (.t 60)⟩, false, 7680, 0),
  (⟨some 62, none, false, .mv (.t 0)⟩, false, 0, 0),
  (⟨some 63, none, false, .mv (.t 10)⟩, false, 0, 0),
  (⟨some 64, none, false, .iad 1 (.t 62) (.t 63)⟩, false, 49152, 0),
  (⟨some 65, none, false, .ldc (.t 64)⟩, false, 114688, 2100992),
  (⟨some 66, none, false, .conv .i64 (.t 65)⟩, false, 245760, 0),
  (⟨some 67, none, false, .bld [(.int .i64 0), (.int .i64 0)] [(0, 1, (.t 61)), (1, 1, (.t 66))]⟩, false, 523776, 0),
  (⟨some 68, none, false, .bsl 2 1 [(.int .i64 0), (.int .i64 0)] [(0, (.t 67))]⟩, false, 1048064, 2097408),
  (⟨some 69, none, false, .app 2 16 (.t 56) (.t 68)⟩, true, 2097151, 0),
  (⟨some 7, none, false, .mv (.t 55)⟩, false, 4194303, 0),
  (⟨some 8, none, false, .mv (.t 69)⟩, false, 8388607, 0)] (some [0, 1, 2, 7, 8, 9, 10])
def ir5_6 : IC := .block 1 ir5_r7
def ir5_r6 : IC := .reg [⟨some 46, none, false, .mv (.t 10)⟩,
  ⟨some 47, none, false, .ar .add (.t 46) (.k (.int .i64 1))⟩,
  ⟨some 10, none, false, .mv (.t 47)⟩] (some [0, 1, 2, 7, 8, 9, 10])
def ir5_7 : IC := .seq ir5_6 ir5_r6
def ir5_8 : IC := .seq ir5_5 ir5_7
def ir5_9 : IC := .loop ir5_8
def ir5_10 : IC := .block 0 ir5_9
def ir5_11 : IC := .seq ir5_r4 ir5_10
def ir5_r8 : IC := .reg [⟨some 11, none, false, .mv (.k (.int .i64 0))⟩] (some [0, 1, 2, 7, 8, 9, 11])
def ir5_r9 : IC := .reg [⟨some 70, none, false, .mv (.t 11)⟩,
  ⟨some 71, none, false, .mv (.t 2)⟩,
  ⟨some 72, none, false, .len (.t 71)⟩,
  ⟨some 73, none, false, .cmp .lss (.t 70) (.t 72)⟩] (some [0, 1, 2, 7, 8, 9, 11, 73])
def ir5_12 : IC := .cond (.t 73) .skip (.exit 2)
def ir5_13 : IC := .seq ir5_r9 ir5_12
def ir5_r11 : IC := .reg [⟨some 76, none, false, .mv (.t 9)⟩,
  ⟨some 77, none, false, .mv (.t 2)⟩,
  ⟨some 78, none, false, .mv (.t 11)⟩,
  ⟨some 79, none, false, .iad 1 (.t 77) (.t 78)⟩,
  ⟨some 80, none, false, .ldc (.t 79)⟩,
  ⟨some 81, none, false, .conv .i64 (.t 80)⟩,
  ⟨some 82, none, false, .mv (.t 0)⟩,
  ⟨some 83, none, false, .len (.t 82)⟩,
  ⟨some 84, none, false, .div .rem (.t 81) (.t 83)⟩,
  ⟨some 85, none, false, .bsl 1 1 [(.int .i64 0)] [(0, (.t 84))]⟩,
  ⟨some 86, none, false, .app 1 8 (.t 76) (.t 85)⟩,
  ⟨some 9, none, false, .mv (.t 86)⟩] (some [0, 1, 2, 7, 8, 9, 11])
def ir5_14 : IC := .block 3 ir5_r11
def ir5_r10 : IC := .reg [⟨some 74, none, false, .mv (.t 11)⟩,
  ⟨some 75, none, false, .ar .add (.t 74) (.k (.int .i64 1))⟩,
  ⟨some 11, none, false, .mv (.t 75)⟩] (some [0, 1, 2, 7, 8, 9, 11])
def ir5_15 : IC := .seq ir5_14 ir5_r10
def ir5_16 : IC := .seq ir5_13 ir5_15
def ir5_17 : IC := .loop ir5_16
def ir5_18 : IC := .block 2 ir5_17
def ir5_19 : IC := .seq ir5_r8 ir5_18
def ir5_r12 : IC := .reg [⟨some 88, none, false, .mv (.t 1)⟩,
  ⟨some 89, none, false, .conv .i64 (.t 88)⟩,
  ⟨some 90, none, false, .mv (.t 8)⟩,
  ⟨some 91, none, false, .bsl 1 0 [] []⟩,
  ⟨some 92, none, false, .mv (.t 9)⟩,
  ⟨some 93, none, false, .app 1 8 (.t 91) (.t 92)⟩,
  ⟨some 94, none, false, .call (.f 19) [(.t 89), (.t 90), (.t 93)]⟩,
  ⟨some 87, none, false, .mv (.t 94)⟩,
  ⟨some 95, none, false, .ext (.t 87) 0⟩,
  ⟨some 96, none, false, .ext (.t 87) 1⟩,
  ⟨some 97, none, false, .ext (.t 87) 2⟩,
  ⟨some 12, none, false, .mv (.t 95)⟩,
  ⟨some 13, none, false, .mv (.t 96)⟩,
  ⟨some 14, none, false, .mv (.t 97)⟩] (some [1, 2, 7, 9, 12, 13, 14])
def ir5_r13 : IC := .reg [⟨some 99, none, false, .mv (.t 7)⟩,
  ⟨some 100, none, false, .mv (.t 1)⟩,
  ⟨some 101, none, false, .conv .i64 (.t 100)⟩,
  ⟨some 102, none, false, .mv (.t 9)⟩,
  ⟨some 103, none, false, .call (.f 20) [(.t 99), (.t 101), (.k (.int .i64 1)), (.t 102), (.k (.int .i64 1))]⟩,
  ⟨some 98, none, false, .mv (.t 103)⟩,
  ⟨some 104, none, false, .ext (.t 98) 0⟩,
  ⟨some 105, none, false, .ext (.t 98) 1⟩,
  ⟨some 15, none, false, .mv (.t 104)⟩,
  ⟨some 16, none, false, .mv (.t 105)⟩] (some [1, 2, 7, 9, 12, 13, 14, 15, 16])
def ir5_r14 : IC := .reg [⟨some 106, none, false, .mv (.t 14)⟩,
  ⟨some 107, none, false, .cmp .neq (.t 106) (.k (.int .i64 0))⟩,
  ⟨some 108, none, false, .mv (.t 107)⟩,
  ⟨some 109, some (108, false), false, .mv (.t 16)⟩,
  ⟨some 110, some (108, false), false, .not (.t 109)⟩,
  ⟨some 111, none, false, .pick (.t 108) (.k (.bool true)) (.t 110)⟩,
  ⟨some 112, none, false, .mv (.t 111)⟩,
  ⟨some 113, some (112, false), false, .mv (.t 12)⟩,
  ⟨some 114, some (112, false), false, .mv (.t 13)⟩,
  ⟨some 115, some (112, false), false, .cmp .neq (.t 113) (.t 114)⟩,
  ⟨some 116, none, false, .pick (.t 112) (.k (.bool true)) (.t 115)⟩,
  ⟨some 117, none, false, .mv (.t 116)⟩,
  ⟨some 118, some (117, false), false, .mv (.t 12)⟩,
  ⟨some 119, some (117, false), false, .mv (.t 2)⟩,
  ⟨some 120, some (117, false), false, .len (.t 119)⟩,
  ⟨some 121, some (117, false), false, .cmp .geq (.t 118) (.t 120)⟩,
  ⟨some 122, none, false, .pick (.t 117) (.k (.bool true)) (.t 121)⟩] (some [1, 7, 9, 12, 15, 122])
def ir5_r15 : IC := .reg [⟨some 6, none, false, .mv (.k (.bool false))⟩] (some [6])
def ir5_20 : IC := .seq ir5_r15 .ret
def ir5_21 : IC := .cond (.t 122) ir5_20 .skip
def ir5_22 : IC := .seq ir5_r14 ir5_21
def ir5_r16 : IC := .reg [⟨some 17, none, false, .mv (.k (.int .i64 0))⟩] (some [1, 7, 9, 12, 15, 17])
def ir5_r17 : IC := .reg [⟨some 123, none, false, .mv (.t 17)⟩,
  ⟨some 124, none, false, .mv (.t 9)⟩,
  ⟨some 125, none, false, .len (.t 124)⟩,
  ⟨some 126, none, false, .cmp .lss (.t 123) (.t 125)⟩] (some [1, 7, 9, 12, 15, 17, 126])
def ir5_23 : IC := .cond (.t 126) .skip (.exit 4)
def ir5_24 : IC := .seq ir5_r17 ir5_23
def ir5_r19 : IC := .reg [⟨some 129, none, false, .mv (.t 15)⟩,
  ⟨some 130, none, false, .mv (.t 9)⟩,
  ⟨some 131, none, false, .mv (.t 17)⟩,
  ⟨some 132, none, false, .iad 1 (.t 130) (.t 131)⟩,
  ⟨some 133, none, false, .ldc (.t 132)⟩,
  ⟨some 134, none, false, .bsl 1 1 [(.int .i64 0)] [(0, (.k (.int .i64 1)))]⟩,
  ⟨some 135, none, false, .call (.f 21) [(.t 129), (.k (.int .i64 0)), (.t 133), (.t 134)]⟩,
  ⟨some 18, none, false, .mv (.t 135)⟩] (some [1, 7, 9, 12, 15, 17, 18])
def ir5_r20 : IC := .reg [⟨some 136, none, false, .mv (.t 12)⟩,
  ⟨some 137, none, false, .cmp .geq (.t 136) (.k (.int .i64 0))⟩,
  ⟨some 138, none, false, .mv (.t 137)⟩,
  ⟨some 139, some (138, true), false, .mv (.t 17)⟩,
  ⟨some 140, some (138, true), false, .mv (.t 12)⟩,
  ⟨some 141, some (138, true), false, .cmp .eql (.t 139) (.t 140)⟩,
  ⟨some 142, none, false, .pick (.t 138) (.t 141) (.k (.bool false))⟩] (some [1, 7, 9, 12, 15, 17, 18, 142])
def ir5_r21 : IC := .reg [⟨some 143, none, false, .mv (.t 18)⟩,
  ⟨some 144, none, false, .cmp .neq (.t 143) (.k (.int .i64 113))⟩,
  ⟨some 145, none, false, .mv (.t 144)⟩,
  ⟨some 146, some (145, false), false, .mv (.t 15)⟩,
  ⟨some 147, some (145, false), false, .call (.f 22) [(.t 146), (.k (.int .i64 0))]⟩,
  ⟨some 148, some (145, false), false, .cmp .neq (.t 147) (.k (.int .i64 0))⟩,
  ⟨some 149, none, false, .pick (.t 145) (.k (.bool true)) (.t 148)⟩] (some [1, 7, 9, 15, 17, 149])
def ir5_r22 : IC := .reg [⟨some 6, none, false, .mv (.k (.bool false))⟩] (some [6])
def ir5_25 : IC := .seq ir5_r22 .ret
def ir5_26 : IC := .cond (.t 149) ir5_25 .skip
def ir5_27 : IC := .seq ir5_r21 ir5_26
def ir5_r23 : IC := .reg [⟨some 150, none, false, .mv (.t 15)⟩,
  ⟨some 151, none, false, .mv (.t 9)⟩,
  ⟨some 152, none, false, .mv (.t 17)⟩,
  ⟨some 153, none, false, .iad 1 (.t 151) (.t 152)⟩,
  ⟨some 154, none, false, .ldc (.t 153)⟩,
  ⟨some 155, none, false, .bsl 1 1 [(.int .i64 0)] [(0, (.k (.int .i64 1)))]⟩,
  ⟨some 156, none, false, .call (.f 21) [(.t 150), (.k (.int .i64 0)), (.t 154), (.t 155)]⟩,
  ⟨some 18, none, false, .mv (.t 156)⟩] (some [1, 7, 9, 17, 18])
def ir5_r24 : IC := .reg [⟨some 157, none, false, .mv (.t 18)⟩,
  ⟨some 158, none, false, .cmp .eql (.t 157) (.k (.int .i64 0))⟩,
  ⟨some 159, none, false, .mv (.t 7)⟩,
  ⟨some 160, none, false, .mv (.t 9)⟩,
  ⟨some 161, none, false, .mv (.t 17)⟩,
  ⟨some 162, none, false, .iad 1 (.t 160) (.t 161)⟩,
  ⟨some 163, none, false, .ldc (.t 162)⟩,
  ⟨some 164, none, false, .iad 1 (.t 159) (.t 163)⟩,
  ⟨some 165, none, false, .ldc (.t 164)⟩,
  ⟨some 166, none, false, .mv (.t 1)⟩,
  ⟨some 167, none, false, .conv .i64 (.t 166)⟩,
  ⟨some 168, none, false, .cmp .leq (.t 165) (.t 167)⟩,
  ⟨some 169, none, false, .cmpb false (.t 158) (.t 168)⟩,
  ⟨some 170, none, false, .mv (.t 169)⟩,
  ⟨some 171, some (170, true), false, .call (.f 18) []⟩,
  ⟨some 172, none, false, .pick (.t 170) (.t 171) (.k (.bool false))⟩,
  ⟨some 6, none, false, .mv (.t 172)⟩] (some [6])
def ir5_28 : IC := .seq ir5_r24 .ret
def ir5_29 : IC := .seq ir5_r23 ir5_28
def ir5_30 : IC := .seq ir5_27 ir5_29
def ir5_31 : IC := .cond (.t 142) ir5_30 .skip
def ir5_32 : IC := .seq ir5_r20 ir5_31
def ir5_r25 : IC := .reg [⟨some 173, none, false, .mv (.t 18)⟩,
  ⟨some 174, none, false, .cmp .neq (.t 173) (.k (.int .i64 0))⟩,
  ⟨some 175, none, false, .mv (.t 174)⟩,
  ⟨some 176, some (175, false), false, .mv (.t 15)⟩,
  ⟨some 177, some (175, false), false, .call (.f 23) [(.t 176), (.k (.int .i64 5))]⟩,
  ⟨some 178, some (175, false), false, .cmp .neq (.t 177) (.k (.int .i64 0))⟩,
  ⟨some 179, none, false, .pick (.t 175) (.k (.bool true)) (.t 178)⟩] (some [1, 7, 9, 12, 15, 17, 179])
def ir5_r26 : IC := .reg [⟨some 6, none, false, .mv (.k (.bool false))⟩] (some [6])
def ir5_33 : IC := .seq ir5_r26 .ret
def ir5_34 : IC := .cond (.t 179) ir5_33 .skip
def ir5_35 : IC := .seq ir5_r25 ir5_34
def ir5_36 : IC := .seq ir5_32 ir5_35
def ir5_37 : IC := .seq ir5_r19 ir5_36
def ir5_38 : IC := .block 5 ir5_37
def ir5_r18 : IC := .reg [⟨some 127, none, false, .mv (.t 17)⟩,
  ⟨some 128, none, false, .ar .add (.t 127) (.k (.int .i64 1))⟩,
  ⟨some 17, none, false, .mv (.t 128)⟩] (some [1, 7, 9, 12, 15, 17])
def ir5_39 : IC := .seq ir5_38 ir5_r18
def ir5_40 : IC := .seq ir5_24 ir5_39
def ir5_41 : IC := .loop ir5_40
def ir5_42 : IC := .block 4 ir5_41
def ir5_43 : IC := .seq ir5_r16 ir5_42
def ir5_r27 : IC := .reg [⟨some 181, none, false, .mv (.t 15)⟩,
  ⟨some 182, none, false, .call (.f 14) [(.t 181), (.k (.int .i64 1))]⟩,
  ⟨some 180, none, false, .mv (.t 182)⟩,
  ⟨some 183, none, false, .ext (.t 180) 0⟩,
  ⟨some 184, none, false, .ext (.t 180) 1⟩,
  ⟨some 19, none, false, .alloc [(.int .i64 0), (.int .i64 0), (.int .i64 0), (.int .u8 0), (.int .i64 0)]⟩,
  ⟨none, none, false, .st 5 (.t 19) (.t 183)⟩,
  ⟨some 14, none, false, .mv (.t 184)⟩] (some [9, 12, 14, 19])
def ir5_r28 : IC := .reg [⟨some 185, none, false, .mv (.t 14)⟩,
  ⟨some 186, none, false, .cmp .eql (.t 185) (.k (.int .i64 0))⟩,
  ⟨some 187, none, false, .mv (.t 186)⟩,
  ⟨some 188, some (187, true), false, .fad 0 (.t 19)⟩,
  ⟨some 189, some (187, true), false, .ldc (.t 188)⟩,
  ⟨some 190, some (187, true), false, .mv (.t 9)⟩,
  ⟨some 191, some (187, true), false, .len (.t 190)⟩,
  ⟨some 192, some (187, true), false, .cmp .eql (.t 189) (.t 191)⟩,
  ⟨some 193, none, false, .pick (.t 187) (.t 192) (.k (.bool false))⟩,
  ⟨some 194, none, false, .mv (.t 193)⟩,
  ⟨some 195, some (194, true), false, .mv (.t 12)⟩,
  ⟨some 196, some (194, true), false, .cmp .eql (.t 195) (.k (.int .i64 (-1)))⟩,
  ⟨some 197, none, false, .pick (.t 194) (.t 196) (.k (.bool false))⟩,
  ⟨some 198, none, false, .mv (.t 197)⟩,
  ⟨some 199, some (198, true), false, .call (.f 18) []⟩,
  ⟨some 200, none, false, .pick (.t 198) (.t 199) (.k (.bool false))⟩,
  ⟨some 6, none, false, .mv (.t 200)⟩] (some [6])
def ir5_44 : IC := .seq ir5_r28 .ret
def ir5_45 : IC := .seq ir5_r27 ir5_44
def ir5_46 : IC := .seq ir5_43 ir5_45
def ir5_47 : IC := .seq ir5_22 ir5_46
def ir5_48 : IC := .seq ir5_r13 ir5_47
def ir5_49 : IC := .seq ir5_r12 ir5_48
def ir5_50 : IC := .seq ir5_19 ir5_49
def ir5_51 : IC := .seq ir5_11 ir5_50
def ir5_52 : IC := .seq ir5_r3 ir5_51
def ir5_53 : IC := .seq ir5_3 ir5_52
def ir5_54 : IC := .seq ir5_r0 ir5_53
def ir5 : IC := ir5_54
theorem fn5 : FnIs Try.prog 5 ir5 201 [.tmp 6] := ⟨Try.f5, Try.f5.body.getD .skip, Try.func5, by kernel_rfl, by kernel_rfl, by kernel_rfl, by kernel_rfl⟩
theorem getY {xs : List Int} {i : Nat} (hi : i < xs.length) : (rows eY xs)[i]? = some (.int .u8 (nth xs i)) := rows_get1 (f := eY) hi
theorem b11 : (true == true) = true := rfl
theorem b00 : (false == false) = true := rfl
theorem d113 : decide ((113 : Int) = 0) = false := rfl
theorem z50 : (5 : Int) * ((0 : Nat) : Int) = 0 := rfl
/-- The law's memory in its last loop. -/
abbrev lM (n m : Nat) (wb rb : List Int) (life : Int) (k : Nat) (W : Int) (T : List (Option AObj)) : List (Option AObj) :=
  wM (aO wb) (aO rb) (iO wb) (iO (roL n rb)) n m (rcL wb) (rtL (roL n rb)) (rcpI n) life (5 * k) W (.pointer none) k (.pointer none) (5 * k) (decide (0 < k)) T
set_option maxHeartbeats 4000000 in
theorem worn_c (n cn m cm : Nat) (wb rb : List Int) (life : Int) (hw : wb.length = n) (hr : rb.length = m) (hl : 0 ≤ life ∧ life ≤ 255) (hwb : ∀ i, i < n → 0 ≤ nth wb i ∧ nth wb i ≤ 255) (hrb : ∀ i, i < m → 0 ≤ nth rb i ∧ nth rb i ≤ 255) :
    Fc Try.prog 5 [.slice (some ⟨1, 0, none⟩) n cn, .int .u8 life, .slice (some ⟨2, 0, none⟩) m cm] (Hp 3 [none, aO wb, aO rb]) (.bool true) (Hp 3 [none, aO wb, aO rb]) := by
  refine Fc.intro0 fn5 (by simp) rfl rfl ?_; simp only [argF]
  have small : (n = 0 ∨ 8 < n ∨ m = 0 ∨ 12 < m) ∨ (1 ≤ n ∧ n ≤ 8 ∧ 1 ≤ m ∧ m ≤ 12) := by omega
  refine ITri.seq ?_
  refine ITri.reg pok ?_; simp -implicitDefEqProofs (disch := first | decide | exact of_eq_true (eq_true rfl) | omega | assumption) only [ ↓vcD, vcE, ↓vcG, vcF, evs, evP, evB, intsOf, fillC, Value.cells, pt, Value.oneCell', reduceIte, reduceCtorEq, Nat.reduceEqDiff, Nat.reduceAdd, Nat.reduceMul, Nat.reduceLT, Nat.reduceBEq, Nat.reduceLeDiff, Nat.reduceSub] -- r0
  refine ITri.seq ?_
  refine ITri.seq ?_
  have hb37 : ((decide ((n : Int) = 0) || decide ((n : Int) > 8)) || decide ((m : Int) = 0) || decide ((m : Int) > 12)) = true ∨ (1 ≤ n ∧ n ≤ 8 ∧ 1 ≤ m ∧ m ≤ 12) := by
    rcases small with h | h
    · left
      simp only [Bool.or_eq_true, decide_eq_true_eq]
      omega
    · exact .inr h
  rcases hb37 with h | ⟨hn1, hn8, hm1, hm12⟩
  · generalize e1 : decide ((n : Int) = 0) = a1 at *
    generalize e2 : decide ((n : Int) > 8) = a2 at *
    generalize e3 : decide ((m : Int) = 0) = a3 at *
    generalize e4 : decide ((m : Int) > 12) = a4 at *
    cases a1 <;> cases a2 <;> cases a3 <;> cases a4 <;> first | exact absurd h (by decide) | (
      refine ITri.reg pok ?_; simp -implicitDefEqProofs (disch := first | decide | exact of_eq_true (eq_true rfl) | omega | assumption) only [e1, e2, e3, e4,  ↓vcD, vcE, ↓vcG, vcF, evs, evP, evB, intsOf, fillC, Value.cells, pt, Value.oneCell', reduceIte, reduceCtorEq, Nat.reduceEqDiff, Nat.reduceAdd, Nat.reduceMul, Nat.reduceLT, Nat.reduceBEq, Nat.reduceLeDiff, Nat.reduceSub] -- r1
      refine ITri.cond (v := true) rfl (fun _ => ?_) (fun h => by cases h)
      refine ITri.seq ?_
      refine ITri.reg pok ?_; simp -implicitDefEqProofs (disch := first | decide | exact of_eq_true (eq_true rfl) | omega | assumption) only [ ↓vcD, vcE, ↓vcG, vcF, evs, evP, evB, intsOf, fillC, Value.cells, pt, Value.oneCell', reduceIte, reduceCtorEq, Nat.reduceEqDiff, Nat.reduceAdd, Nat.reduceMul, Nat.reduceLT, Nat.reduceBEq, Nat.reduceLeDiff, Nat.reduceSub]
      refine ⟨_, _, works11_f, ?_⟩
      try simp -implicitDefEqProofs (disch := first | decide | exact of_eq_true (eq_true rfl) | omega | assumption) only [ ↓vcD, vcE, ↓vcG, vcF, evs, evP, evB, intsOf, fillC, Value.cells, pt, Value.oneCell', reduceIte, reduceCtorEq, Nat.reduceEqDiff, Nat.reduceAdd, Nat.reduceMul, Nat.reduceLT, Nat.reduceBEq, Nat.reduceLeDiff, Nat.reduceSub]
      refine ITri.ret ?_; exact EndR.plain (by simp) (by rfl) (by rfl) (by rfl))
  have d1 : decide ((n : Int) = 0) = false := by simp; omega
  have d2 : decide ((n : Int) > 8) = false := by simp; omega
  have d3 : decide ((m : Int) = 0) = false := by simp; omega
  have d4 : decide ((m : Int) > 12) = false := by simp; omega
  refine ITri.reg pok ?_; simp -implicitDefEqProofs (disch := first | decide | exact of_eq_true (eq_true rfl) | omega | assumption) only [d1, d2, d3, d4,  ↓vcD, vcE, ↓vcG, vcF, evs, evP, evB, intsOf, fillC, Value.cells, pt, Value.oneCell', reduceIte, reduceCtorEq, Nat.reduceEqDiff, Nat.reduceAdd, Nat.reduceMul, Nat.reduceLT, Nat.reduceBEq, Nat.reduceLeDiff, Nat.reduceSub] -- r1
  refine ITri.cond (v := false) rfl (fun h => by cases h) (fun _ => ?_); refine ITri.skip ?_; simp only [SeqQ_normal, BlkQ_normal]
  refine ITri.seq ?_
  refine ITri.reg pok ?_; simp -implicitDefEqProofs (disch := first | decide | exact of_eq_true (eq_true rfl) | omega | assumption) only [ ↓vcD, vcE, ↓vcG, vcF, evs, evP, evB, intsOf, fillC, Value.cells, pt, Value.oneCell', reduceIte, reduceCtorEq, Nat.reduceEqDiff, Nat.reduceAdd, Nat.reduceMul, Nat.reduceLT, Nat.reduceBEq, Nat.reduceLeDiff, Nat.reduceSub] -- r3
  refine ITri.seq ?_
  refine ITri.seq ?_
  refine ITri.reg pok ?_; simp -implicitDefEqProofs (disch := first | decide | exact of_eq_true (eq_true rfl) | omega | assumption) only [ ↓vcD, vcE, ↓vcG, vcF, evs, evP, evB, intsOf, fillC, Value.cells, pt, Value.oneCell', reduceIte, reduceCtorEq, Nat.reduceEqDiff, Nat.reduceAdd, Nat.reduceMul, Nat.reduceLT, Nat.reduceBEq, Nat.reduceLeDiff, Nat.reduceSub] -- r4
  refine ITri.block ?_ -- 0
  refine ITri.loop (fun k : Nat => [(0, .slice (some ⟨1, 0, none⟩) n cn), (1, .int .u8 life), (2, .slice (some ⟨2, 0, none⟩) m cm), (7, slO 3 k openB), (8, slO 4 k openB), (9, slO 5 0 openB), (10, .int .i64 k)]) (fun _ => []) (fun k => Hp 3 [none, aO wb, aO rb, iO (wb.take k), some (cO (rows eR (knL (wb.take k))) 2 true), some (cO [] 1 true)]) (fun k => k ≤ n) (fun k => n - k) 0 (by omega) (Wk.gc [0, 1, 2, 3, 4, 5] [(3, .room 0), (4, .room 0), (5, .room 0)] (of_decide_eq_true rfl) (of_decide_eq_true rfl) rfl rfl (of_decide_eq_true rfl) rfl rfl (by repeat (first | exact xiOK_nil | refine xiOK_cons (by first | trivial | exact roomOK _ (by decide)) ?_)) rfl (by simp -implicitDefEqProofs (disch := first | decide | exact of_eq_true (eq_true rfl) | omega | assumption) only [knL, List.take_zero, List.map_nil, rows_nil, objOK, sgL, xiL, objAt, nilO, OM, mvL, mv, mvS, okS, okP, mvL_rows, okML, okM, okML_rows, List.getElem?_cons_zero, Option.getD_some, implies_true, imp_self, ne_eq, and_self, true_or, or_true, Nat.zero_mul, Nat.sub_self, openB_self, ↓vcD, vcE, ↓vcG, vcF, evs, evP, evB, intsOf, fillC, Value.cells, pt, Value.oneCell', reduceIte, reduceCtorEq, Nat.reduceEqDiff, Nat.reduceAdd, Nat.reduceMul, Nat.reduceLT, Nat.reduceBEq, Nat.reduceLeDiff, Nat.reduceSub]) (by simp -implicitDefEqProofs (disch := first | decide | exact of_eq_true (eq_true rfl) | omega | assumption) only [knL, List.take_zero, List.map_nil, rows_nil, valOK, sgL, xiL, mv, mvA, mvL, mvS, okS, okP, okM, okMA, okML, Option.getD_some, implies_true, and_self, true_or, or_true, Int.natCast_add, Int.cast_ofNat_Int, Nat.zero_mul, Nat.sub_self, openB_self, ↓vcD, vcE, ↓vcG, vcF, evs, evP, evB, intsOf, fillC, Value.cells, pt, Value.oneCell', reduceIte, reduceCtorEq, Nat.reduceEqDiff, Nat.reduceAdd, Nat.reduceMul, Nat.reduceLT, Nat.reduceBEq, Nat.reduceLeDiff, Nat.reduceSub]) (fun _ h => by cases h) ⟨rfl, fun _ h => by cases h⟩) fun k hk => ?_
  refine ITri.seq ?_
  refine ITri.seq ?_
  refine ITri.reg pok ?_; simp -implicitDefEqProofs (disch := first | decide | exact of_eq_true (eq_true rfl) | omega | assumption) only [ ↓vcD, vcE, ↓vcG, vcF, evs, evP, evB, intsOf, fillC, Value.cells, pt, Value.oneCell', reduceIte, reduceCtorEq, Nat.reduceEqDiff, Nat.reduceAdd, Nat.reduceMul, Nat.reduceLT, Nat.reduceBEq, Nat.reduceLeDiff, Nat.reduceSub] -- r5
  refine ITri.condD (by rfl) (fun h3 => ?_) (fun h3 => ?_) -- %45
  · have hkn : k < n := by omega
    have hg : (rows eY wb)[k]? = some (.int .u8 (nth wb k)) := getY (by omega)
    have hb := hwb k hkn
    have h1 := kn_snoc (ws := wb) (k := k) (by omega)
    have h2 := kn_len (ws := wb) (k := k) (by omega)
    have h4 := w_snoc (ws := wb) (k := k) (by omega)
    have h5 := w_len (ws := wb) (k := k) (by omega)
    refine ITri.skip ?_; simp only [SeqQ_normal, BlkQ_normal]
    refine ITri.seq ?_
    refine ITri.block ?_ -- 1
    refine ITri.draw pok ?_; simp -implicitDefEqProofs (disch := first | decide | exact of_eq_true (eq_true rfl) | omega | assumption) only [hg, h2, h5, Int.toNat_natCast,  ↓vcD, vcE, ↓vcG, vcF, evs, evP, evB, intsOf, fillC, Value.cells, pt, Value.oneCell', reduceIte, reduceCtorEq, Nat.reduceEqDiff, Nat.reduceAdd, Nat.reduceMul, Nat.reduceLT, Nat.reduceBEq, Nat.reduceLeDiff, Nat.reduceSub] -- r7
    rw [← h4, ← h1]
    refine ITri.reg pok ?_; simp -implicitDefEqProofs (disch := first | decide | exact of_eq_true (eq_true rfl) | omega | assumption) only [ ↓vcD, vcE, ↓vcG, vcF, evs, evP, evB, intsOf, fillC, Value.cells, pt, Value.oneCell', reduceIte, reduceCtorEq, Nat.reduceEqDiff, Nat.reduceAdd, Nat.reduceMul, Nat.reduceLT, Nat.reduceBEq, Nat.reduceLeDiff, Nat.reduceSub] -- r6
    exact LoopQ.next (k + 1) (by omega) (by omega) (Wk.gc [0, 1, 2, 7, 9, 5] [] (of_decide_eq_true rfl) (of_decide_eq_true rfl) rfl rfl (of_decide_eq_true rfl) rfl rfl (by repeat (first | exact xiOK_nil | refine xiOK_cons (by first | trivial | exact roomOK _ (by decide)) ?_)) rfl (by simp -implicitDefEqProofs (disch := first | decide | exact of_eq_true (eq_true rfl) | omega | assumption) only [ objOK, sgL, xiL, objAt, nilO, OM, mvL, mv, mvS, okS, okP, mvL_rows, okML, okM, okML_rows, List.getElem?_cons_zero, Option.getD_some, implies_true, imp_self, ne_eq, and_self, true_or, or_true, Nat.zero_mul, Nat.sub_self, openB_self, ↓vcD, vcE, ↓vcG, vcF, evs, evP, evB, intsOf, fillC, Value.cells, pt, Value.oneCell', reduceIte, reduceCtorEq, Nat.reduceEqDiff, Nat.reduceAdd, Nat.reduceMul, Nat.reduceLT, Nat.reduceBEq, Nat.reduceLeDiff, Nat.reduceSub]) (by simp -implicitDefEqProofs (disch := first | decide | exact of_eq_true (eq_true rfl) | omega | assumption) only [ valOK, sgL, xiL, mv, mvA, mvL, mvS, okS, okP, okM, okMA, okML, Option.getD_some, implies_true, and_self, true_or, or_true, Int.natCast_add, Int.cast_ofNat_Int, Nat.zero_mul, Nat.sub_self, openB_self, ↓vcD, vcE, ↓vcG, vcF, evs, evP, evB, intsOf, fillC, Value.cells, pt, Value.oneCell', reduceIte, reduceCtorEq, Nat.reduceEqDiff, Nat.reduceAdd, Nat.reduceMul, Nat.reduceLT, Nat.reduceBEq, Nat.reduceLeDiff, Nat.reduceSub]) (fun _ h => by cases h) ⟨rfl, fun _ h => by cases h⟩)
  refine ITri.exit ?_; try simp -implicitDefEqProofs (disch := first | decide | exact of_eq_true (eq_true rfl) | omega | assumption) only [ ↓vcD, vcE, ↓vcG, vcF, evs, evP, evB, intsOf, fillC, Value.cells, pt, Value.oneCell', reduceIte, reduceCtorEq, Nat.reduceEqDiff, Nat.reduceAdd, Nat.reduceMul, Nat.reduceLT, Nat.reduceBEq, Nat.reduceLeDiff, Nat.reduceSub]
  obtain rfl : n = k := by omega
  have et : wb.take n = wb := by rw [← hw]; exact List.take_length
  rw [et]
  refine ITri.seq ?_
  refine ITri.seq ?_
  refine ITri.reg pok ?_; simp -implicitDefEqProofs (disch := first | decide | exact of_eq_true (eq_true rfl) | omega | assumption) only [ ↓vcD, vcE, ↓vcG, vcF, evs, evP, evB, intsOf, fillC, Value.cells, pt, Value.oneCell', reduceIte, reduceCtorEq, Nat.reduceEqDiff, Nat.reduceAdd, Nat.reduceMul, Nat.reduceLT, Nat.reduceBEq, Nat.reduceLeDiff, Nat.reduceSub] -- r8
  refine ITri.block ?_ -- 2
  refine ITri.loop (fun k : Nat => [(0, .slice (some ⟨1, 0, none⟩) n cn), (1, .int .u8 life), (2, .slice (some ⟨2, 0, none⟩) m cm), (7, slO 3 n openB), (8, slO 4 n openB), (9, slO 5 k openB), (11, .int .i64 k)]) (fun _ => []) (fun k => Hp 3 [none, aO wb, aO rb, iO wb, some (cO (rows eR (knL wb)) 2 true), iO (roL n (rb.take k))]) (fun k => k ≤ m) (fun k => m - k) 0 (by omega) (Wk.sub ⟨rfl, rfl, rfl, rfl, rfl, rfl, rfl, trivial⟩) (fun k hk => ?_)
  refine ITri.seq ?_
  refine ITri.seq ?_
  refine ITri.reg pok ?_; simp -implicitDefEqProofs (disch := first | decide | exact of_eq_true (eq_true rfl) | omega | assumption) only [ ↓vcD, vcE, ↓vcG, vcF, evs, evP, evB, intsOf, fillC, Value.cells, pt, Value.oneCell', reduceIte, reduceCtorEq, Nat.reduceEqDiff, Nat.reduceAdd, Nat.reduceMul, Nat.reduceLT, Nat.reduceBEq, Nat.reduceLeDiff, Nat.reduceSub] -- r9
  refine ITri.condD (by rfl) (fun h3 => ?_) (fun h3 => ?_) -- %73
  · have hkn : k < m := by omega
    have hg : (rows eY rb)[k]? = some (.int .u8 (nth rb k)) := getY (by omega)
    have hb := hrb k hkn
    have hq : dvI .rem (nth rb k) n = nth rb k % n := dvI_rem hb.1
    have hn0 : ¬ (n : Int) = 0 := by omega
    have h1 := ro_snoc (n := n) (ws := rb) (k := k) (by omega)
    have h2 := ro_len (n := n) (ws := rb) (k := k) (by omega)
    have h6 := Int.emod_nonneg (nth rb k) (b := (n : Int)) (by omega)
    have h7 := Int.emod_lt_of_pos (nth rb k) (b := (n : Int)) (by omega)
    refine ITri.skip ?_; simp only [SeqQ_normal, BlkQ_normal]
    refine ITri.seq ?_
    refine ITri.block ?_ -- 3
    refine ITri.reg pok ?_; simp -implicitDefEqProofs (disch := first | decide | exact of_eq_true (eq_true rfl) | omega | assumption) only [hg, h2, hq, Int.toNat_natCast,  ↓vcD, vcE, ↓vcG, vcF, evs, evP, evB, intsOf, fillC, Value.cells, pt, Value.oneCell', reduceIte, reduceCtorEq, Nat.reduceEqDiff, Nat.reduceAdd, Nat.reduceMul, Nat.reduceLT, Nat.reduceBEq, Nat.reduceLeDiff, Nat.reduceSub] -- r11
    rw [← h1]
    refine ITri.reg pok ?_; simp -implicitDefEqProofs (disch := first | decide | exact of_eq_true (eq_true rfl) | omega | assumption) only [ ↓vcD, vcE, ↓vcG, vcF, evs, evP, evB, intsOf, fillC, Value.cells, pt, Value.oneCell', reduceIte, reduceCtorEq, Nat.reduceEqDiff, Nat.reduceAdd, Nat.reduceMul, Nat.reduceLT, Nat.reduceBEq, Nat.reduceLeDiff, Nat.reduceSub] -- r10
    exact LoopQ.next (k + 1) (by omega) (by omega) (Wk.gc [0, 1, 2, 3, 4, 7] [] (of_decide_eq_true rfl) (of_decide_eq_true rfl) rfl rfl (of_decide_eq_true rfl) rfl rfl (by repeat (first | exact xiOK_nil | refine xiOK_cons (by first | trivial | exact roomOK _ (by decide)) ?_)) rfl (by simp -implicitDefEqProofs (disch := first | decide | exact of_eq_true (eq_true rfl) | omega | assumption) only [ objOK, sgL, xiL, objAt, nilO, OM, mvL, mv, mvS, okS, okP, mvL_rows, okML, okM, okML_rows, List.getElem?_cons_zero, Option.getD_some, implies_true, imp_self, ne_eq, and_self, true_or, or_true, Nat.zero_mul, Nat.sub_self, openB_self, ↓vcD, vcE, ↓vcG, vcF, evs, evP, evB, intsOf, fillC, Value.cells, pt, Value.oneCell', reduceIte, reduceCtorEq, Nat.reduceEqDiff, Nat.reduceAdd, Nat.reduceMul, Nat.reduceLT, Nat.reduceBEq, Nat.reduceLeDiff, Nat.reduceSub]) (by simp -implicitDefEqProofs (disch := first | decide | exact of_eq_true (eq_true rfl) | omega | assumption) only [ valOK, sgL, xiL, mv, mvA, mvL, mvS, okS, okP, okM, okMA, okML, Option.getD_some, implies_true, and_self, true_or, or_true, Int.natCast_add, Int.cast_ofNat_Int, Nat.zero_mul, Nat.sub_self, openB_self, ↓vcD, vcE, ↓vcG, vcF, evs, evP, evB, intsOf, fillC, Value.cells, pt, Value.oneCell', reduceIte, reduceCtorEq, Nat.reduceEqDiff, Nat.reduceAdd, Nat.reduceMul, Nat.reduceLT, Nat.reduceBEq, Nat.reduceLeDiff, Nat.reduceSub]) (fun _ h => by cases h) ⟨rfl, fun _ h => by cases h⟩)
  refine ITri.exit ?_; try simp -implicitDefEqProofs (disch := first | decide | exact of_eq_true (eq_true rfl) | omega | assumption) only [ ↓vcD, vcE, ↓vcG, vcF, evs, evP, evB, intsOf, fillC, Value.cells, pt, Value.oneCell', reduceIte, reduceCtorEq, Nat.reduceEqDiff, Nat.reduceAdd, Nat.reduceMul, Nat.reduceLT, Nat.reduceBEq, Nat.reduceLeDiff, Nat.reduceSub]
  obtain rfl : m = k := by omega
  have et2 : rb.take m = rb := by rw [← hr]; exact List.take_length
  rw [et2]
  have hrl := ro_len (n := n) (ws := rb) (k := m) (by omega)
  rw [et2] at hrl
  have htk := takeC_0 (rows eN (roL n rb)) m hrl
  have hal : (rows eN (roL n rb)).all Value.oneCell' = true := rows_one' (f := eN) _
  have hAg := aged_law (rb := rb) ⟨hn1, hn8⟩ hm12 hw hr hl hwb
  refine ITri.seq ?_
  refine ITri.reg pok ?_; simp -implicitDefEqProofs (disch := first | decide | exact of_eq_true (eq_true rfl) | omega | assumption) only [htk, hrl, hal,  ↓vcD, vcE, ↓vcG, vcF, evs, evP, evB, intsOf, fillC, Value.cells, pt, Value.oneCell', reduceIte, reduceCtorEq, Nat.reduceEqDiff, Nat.reduceAdd, Nat.reduceMul, Nat.reduceLT, Nat.reduceBEq, Nat.reduceLeDiff, Nat.reduceSub] -- r12
  refine ⟨_, _, aged_f n m life (knL wb) (roL n rb) (by rw [knL_len, hw]) (by rw [roL_len, hr]) (by omega) (by omega) (sees0 rfl (of_decide_eq_true rfl)) (Rd.hq rfl rfl) (Rd.hq rfl rfl), ?_⟩
  rw [hAg]
  try simp -implicitDefEqProofs (disch := first | decide | exact of_eq_true (eq_true rfl) | omega | assumption) only [ ↓vcD, vcE, ↓vcG, vcF, evs, evP, evB, intsOf, fillC, Value.cells, pt, Value.oneCell', reduceIte, reduceCtorEq, Nat.reduceEqDiff, Nat.reduceAdd, Nat.reduceMul, Nat.reduceLT, Nat.reduceBEq, Nat.reduceLeDiff, Nat.reduceSub]
  generalize hQ : agI n life wb rb m = q
  refine ITri.weak (l' := [(1, .int .u8 life), (2, .slice (some ⟨2, 0, none⟩) m cm), (7, slO 3 n openB), (9, slO 4 m openB), (12, .int .i64 q), (13, .int .i64 q), (14, .int .i64 0)]) (ms' := []) (h' := Hp 3 [none, aO wb, aO rb, iO wb, iO (roL n rb)]) (Wk.gc [0, 1, 2, 3, 5] [] (of_decide_eq_true rfl) (of_decide_eq_true rfl) rfl rfl (of_decide_eq_true rfl) rfl rfl (by repeat (first | exact xiOK_nil | refine xiOK_cons (by first | trivial | exact roomOK _ (by decide)) ?_)) rfl (by simp -implicitDefEqProofs (disch := first | decide | exact of_eq_true (eq_true rfl) | omega | assumption) only [ objOK, sgL, xiL, objAt, nilO, OM, mvL, mv, mvS, okS, okP, mvL_rows, okML, okM, okML_rows, List.getElem?_cons_zero, Option.getD_some, implies_true, imp_self, ne_eq, and_self, true_or, or_true, Nat.zero_mul, Nat.sub_self, openB_self, ↓vcD, vcE, ↓vcG, vcF, evs, evP, evB, intsOf, fillC, Value.cells, pt, Value.oneCell', reduceIte, reduceCtorEq, Nat.reduceEqDiff, Nat.reduceAdd, Nat.reduceMul, Nat.reduceLT, Nat.reduceBEq, Nat.reduceLeDiff, Nat.reduceSub]) (by simp -implicitDefEqProofs (disch := first | decide | exact of_eq_true (eq_true rfl) | omega | assumption) only [ valOK, sgL, xiL, mv, mvA, mvL, mvS, okS, okP, okM, okMA, okML, Option.getD_some, implies_true, and_self, true_or, or_true, Int.natCast_add, Int.cast_ofNat_Int, Nat.zero_mul, Nat.sub_self, openB_self, ↓vcD, vcE, ↓vcG, vcF, evs, evP, evB, intsOf, fillC, Value.cells, pt, Value.oneCell', reduceIte, reduceCtorEq, Nat.reduceEqDiff, Nat.reduceAdd, Nat.reduceMul, Nat.reduceLT, Nat.reduceBEq, Nat.reduceLeDiff, Nat.reduceSub]) (fun _ h => by cases h) ⟨rfl, fun _ h => by cases h⟩) ?_
  have hrr : ∀ i, i < m → 0 ≤ nth (roL n rb) i ∧ nth (roL n rb) i < n := fun i hi => (ro_nth (n := n) hn1 (by omega)).2
  have hqb : -1 ≤ q ∧ q < m := by
    have := ov_rng (fun k => decide (life - suW n wb rb (k + 1) < 0)) m
    unfold agI at hQ
    rw [hQ] at this
    omega
  have q1 : decide (q ≠ q) = false := by simp
  have q2 : decide (q ≥ (m : Int)) = false := by simp; omega
  refine ITri.seq ?_
  refine ITri.reg pok ?_; simp -implicitDefEqProofs (disch := first | decide | exact of_eq_true (eq_true rfl) | omega | assumption) only [ ↓vcD, vcE, ↓vcG, vcF, evs, evP, evB, intsOf, fillC, Value.cells, pt, Value.oneCell', reduceIte, reduceCtorEq, Nat.reduceEqDiff, Nat.reduceAdd, Nat.reduceMul, Nat.reduceLT, Nat.reduceBEq, Nat.reduceLeDiff, Nat.reduceSub] -- r13
  refine ⟨_, _, opened_x (wb := wb) (rb := rb) (ws := wb) (rs := roL n rb) hw (by rw [roL_len, hr]) ⟨hn1, hn8⟩ ⟨hm1, hm12⟩ ⟨hl.1, by omega⟩ (fun i hi => by have := hwb i hi; omega) hrr, ?_⟩
  try simp -implicitDefEqProofs (disch := first | decide | exact of_eq_true (eq_true rfl) | omega | assumption) only [ ↓vcD, vcE, ↓vcG, vcF, evs, evP, evB, intsOf, fillC, Value.cells, pt, Value.oneCell', reduceIte, reduceCtorEq, Nat.reduceEqDiff, Nat.reduceAdd, Nat.reduceMul, Nat.reduceLT, Nat.reduceBEq, Nat.reduceLeDiff, Nat.reduceSub]
  refine ITri.seq ?_
  refine ITri.seq ?_
  refine ITri.reg pok ?_; simp -implicitDefEqProofs (disch := first | decide | exact of_eq_true (eq_true rfl) | omega | assumption) only [q1, q2, decide_true, decide_false, Bool.not_true,  ↓vcD, vcE, ↓vcG, vcF, evs, evP, evB, intsOf, fillC, Value.cells, pt, Value.oneCell', reduceIte, reduceCtorEq, Nat.reduceEqDiff, Nat.reduceAdd, Nat.reduceMul, Nat.reduceLT, Nat.reduceBEq, Nat.reduceLeDiff, Nat.reduceSub] -- r14
  refine ITri.cond (v := false) rfl (fun h => by cases h) (fun _ => ?_); refine ITri.skip ?_; simp only [SeqQ_normal, BlkQ_normal]
  refine ITri.weak (l' := [(1, .int .u8 life), (7, slO 3 n openB), (9, slO 4 m openB), (12, .int .i64 q), (15, pt 5)]) (ms' := []) (h' := Hp 3 (lM n m wb rb life 0 0 [])) (Wk.gc [0, 1, 2, 3, 4, 15, 12, 14, 25, 28, 23, 26, 22, 21, 19, 20, 7] [] (of_decide_eq_true rfl) (of_decide_eq_true rfl) rfl rfl (of_decide_eq_true rfl) rfl rfl (by repeat (first | exact xiOK_nil | refine xiOK_cons (by first | trivial | exact roomOK _ (by decide)) ?_)) rfl (by simp -implicitDefEqProofs (disch := first | decide | exact of_eq_true (eq_true rfl) | omega | assumption) only [mE, decide_false, Nat.lt_irrefl, z50, (show ((0 : Nat) : Int) = 0 from rfl), List.not_mem_nil, false_implies, Int.mul_zero, objOK, sgL, xiL, objAt, nilO, OM, mvL, mv, mvS, okS, okP, mvL_rows, okML, okM, okML_rows, List.getElem?_cons_zero, Option.getD_some, implies_true, imp_self, ne_eq, and_self, true_or, or_true, Nat.zero_mul, Nat.sub_self, openB_self, ↓vcD, vcE, ↓vcG, vcF, evs, evP, evB, intsOf, fillC, Value.cells, pt, Value.oneCell', reduceIte, reduceCtorEq, Nat.reduceEqDiff, Nat.reduceAdd, Nat.reduceMul, Nat.reduceLT, Nat.reduceBEq, Nat.reduceLeDiff, Nat.reduceSub]) (by simp -implicitDefEqProofs (disch := first | decide | exact of_eq_true (eq_true rfl) | omega | assumption) only [mE, decide_false, Nat.lt_irrefl, z50, (show ((0 : Nat) : Int) = 0 from rfl), List.not_mem_nil, false_implies, Int.mul_zero, valOK, sgL, xiL, mv, mvA, mvL, mvS, okS, okP, okM, okMA, okML, Option.getD_some, implies_true, and_self, true_or, or_true, Int.natCast_add, Int.cast_ofNat_Int, Nat.zero_mul, Nat.sub_self, openB_self, ↓vcD, vcE, ↓vcG, vcF, evs, evP, evB, intsOf, fillC, Value.cells, pt, Value.oneCell', reduceIte, reduceCtorEq, Nat.reduceEqDiff, Nat.reduceAdd, Nat.reduceMul, Nat.reduceLT, Nat.reduceBEq, Nat.reduceLeDiff, Nat.reduceSub]) (fun _ h => by cases h) ⟨rfl, fun _ h => by cases h⟩) ?_
  refine ITri.seq ?_
  refine ITri.seq ?_
  refine ITri.reg pok ?_; simp -implicitDefEqProofs (disch := first | decide | exact of_eq_true (eq_true rfl) | omega | assumption) only [ ↓vcD, vcE, ↓vcG, vcF, evs, evP, evB, intsOf, fillC, Value.cells, pt, Value.oneCell', reduceIte, reduceCtorEq, Nat.reduceEqDiff, Nat.reduceAdd, Nat.reduceMul, Nat.reduceLT, Nat.reduceBEq, Nat.reduceLeDiff, Nat.reduceSub] -- r16
  refine ITri.block ?_ -- 4
  refine ITri.loop (fun k : Nat => [(1, .int .u8 life), (7, slO 3 n openB), (9, slO 4 m openB), (12, .int .i64 q), (15, pt 5), (17, .int .i64 k)]) (fun _ => []) (fun k => Hp 3 (lM n m wb rb life k (suW n wb rb k) [])) (fun k => k ≤ m ∧ agI n life wb rb k = -1) (fun k => m - k) 0 ⟨by omega, rfl⟩ (Wk.sub ⟨rfl, rfl, rfl, rfl, rfl, rfl, trivial⟩) (fun k hk => ?_)
  obtain ⟨hk, ho⟩ := hk
  refine ITri.seq ?_
  refine ITri.seq ?_
  refine ITri.reg pok ?_; simp -implicitDefEqProofs (disch := first | decide | exact of_eq_true (eq_true rfl) | omega | assumption) only [ ↓vcD, vcE, ↓vcG, vcF, evs, evP, evB, intsOf, fillC, Value.cells, pt, Value.oneCell', reduceIte, reduceCtorEq, Nat.reduceEqDiff, Nat.reduceAdd, Nat.reduceMul, Nat.reduceLT, Nat.reduceBEq, Nat.reduceLeDiff, Nat.reduceSub] -- r17
  refine ITri.condD (by rfl) (fun h8 => ?_) (fun h8 => ?_) -- %126
  · have hkm : k < m := by omega
    obtain ⟨r0, r1⟩ := hrr k hkm
    have hg : (rows eN (roL n rb))[k]? = some (.int .i64 (nth (roL n rb) k)) := getN (by rw [roL_len]; omega)
    have hsu := su_succ (n := n) (wb := wb) (rb := rb) (k := k) hn1 hw (by omega)
    have hbd := su_bd (n := n) (wb := wb) (rb := rb) hn1 hw hwb k (by omega)
    have hkr : (nth (rtL (roL n rb)) k).1 = nth (roL n rb) k := by unfold rtL; rw [nth_map (by rw [roL_len]; omega)]
    have hrw : nth (rcL wb) (nth (roL n rb) k).toNat = (5, nth wb (nth (roL n rb) k).toNat) := by unfold rcL; rw [nth_map (by omega)]
    have hbit : btI .and .i64 (shI .shr .i64 (rcpI n) (nth (roL n rb) k)) 1 = 1 := by
      have := bit_ok n (by omega) (nth (roL n rb) k).toNat (by omega)
      rwa [Int.toNat_of_nonneg r0] at this
    have hwv := hwb (nth (roL n rb) k).toNat (by omega)
    generalize hR : nth (roL n rb) k = r at *
    generalize hV : nth wb r.toNat = v at *
    generalize hU : suW n wb rb k = U at *
    refine ITri.skip ?_; simp only [SeqQ_normal, BlkQ_normal]
    refine ITri.seq ?_
    refine ITri.block ?_ -- 5
    refine ITri.seq ?_
    refine ITri.reg pok ?_; simp -implicitDefEqProofs (disch := first | decide | exact of_eq_true (eq_true rfl) | omega | assumption) only [hg, Int.toNat_natCast,  ↓vcD, vcE, ↓vcG, vcF, evs, evP, evB, intsOf, fillC, Value.cells, pt, Value.oneCell', reduceIte, reduceCtorEq, Nat.reduceEqDiff, Nat.reduceAdd, Nat.reduceMul, Nat.reduceLT, Nat.reduceBEq, Nat.reduceLeDiff, Nat.reduceSub] -- r19
    by_cases hp : life < U + v
    · have hqk : q = k := by
        rw [← hQ]
        exact ov_hit ho (by simp only [decide_eq_true_eq]; omega) hkm
      subst hqk
      refine ⟨_, _, start_worn (w := v) (by rw [rcL_len, hw]) (by rw [rtL_len, roL_len, hr]) hn8 hm12 ⟨r0, r1⟩ hkm hkr hrw (by omega) (by omega) (by omega) hp hbit, ?_⟩
      try simp -implicitDefEqProofs (disch := first | decide | exact of_eq_true (eq_true rfl) | omega | assumption) only [ ↓vcD, vcE, ↓vcG, vcF, evs, evP, evB, intsOf, fillC, Value.cells, pt, Value.oneCell', reduceIte, reduceCtorEq, Nat.reduceEqDiff, Nat.reduceAdd, Nat.reduceMul, Nat.reduceLT, Nat.reduceBEq, Nat.reduceLeDiff, Nat.reduceSub]
      have k1 : decide ((0 : Int) ≤ (k : Int)) = true := by simp
      refine ITri.seq ?_
      refine ITri.seq ?_
      refine ITri.reg pok ?_; simp -implicitDefEqProofs (disch := first | decide | exact of_eq_true (eq_true rfl) | omega | assumption) only [k1, decide_true,  ↓vcD, vcE, ↓vcG, vcF, evs, evP, evB, intsOf, fillC, Value.cells, pt, Value.oneCell', reduceIte, reduceCtorEq, Nat.reduceEqDiff, Nat.reduceAdd, Nat.reduceMul, Nat.reduceLT, Nat.reduceBEq, Nat.reduceLeDiff, Nat.reduceSub] -- r20
      refine ITri.cond (v := true) rfl (fun _ => ?_) (fun h => by cases h)
      refine ITri.seq ?_
      refine ITri.seq ?_
      refine ITri.reg pok ?_; simp -implicitDefEqProofs (disch := first | decide | exact of_eq_true (eq_true rfl) | omega | assumption) only [decide_true, Bool.not_true,  ↓vcD, vcE, ↓vcG, vcF, evs, evP, evB, intsOf, fillC, Value.cells, pt, Value.oneCell', reduceIte, reduceCtorEq, Nat.reduceEqDiff, Nat.reduceAdd, Nat.reduceMul, Nat.reduceLT, Nat.reduceBEq, Nat.reduceLeDiff, Nat.reduceSub] -- r21
      refine ⟨_, _, service_x, ?_⟩
      simp -implicitDefEqProofs (disch := first | decide | exact of_eq_true (eq_true rfl) | omega | assumption) only [decide_true, Bool.not_true,  ↓vcD, vcE, ↓vcG, vcF, evs, evP, evB, intsOf, fillC, Value.cells, pt, Value.oneCell', reduceIte, reduceCtorEq, Nat.reduceEqDiff, Nat.reduceAdd, Nat.reduceMul, Nat.reduceLT, Nat.reduceBEq, Nat.reduceLeDiff, Nat.reduceSub]
      refine ITri.cond (v := false) rfl (fun h => by cases h) (fun _ => ?_); refine ITri.skip ?_; simp only [SeqQ_normal, BlkQ_normal]
      refine ITri.weak (l' := [(1, .int .u8 life), (7, slO 3 n openB), (9, slO 4 m openB), (15, pt 5), (17, .int .i64 k)]) (ms' := []) (h' := Hp 3 (lM n m wb rb life k 0 [])) (Wk.gc [0, 1, 2, 3, 4, 5, 6, 7, 8, 9, 10, 11, 12, 13, 14, 15, 16] [] (of_decide_eq_true rfl) (of_decide_eq_true rfl) rfl rfl (of_decide_eq_true rfl) rfl rfl (by repeat (first | exact xiOK_nil | refine xiOK_cons (by first | trivial | exact roomOK _ (by decide)) ?_)) rfl (by simp -implicitDefEqProofs (disch := first | decide | exact of_eq_true (eq_true rfl) | omega | assumption) only [ objOK, sgL, xiL, objAt, nilO, OM, mvL, mv, mvS, okS, okP, mvL_rows, okML, okM, okML_rows, List.getElem?_cons_zero, Option.getD_some, implies_true, imp_self, ne_eq, and_self, true_or, or_true, Nat.zero_mul, Nat.sub_self, openB_self, ↓vcD, vcE, ↓vcG, vcF, evs, evP, evB, intsOf, fillC, Value.cells, pt, Value.oneCell', reduceIte, reduceCtorEq, Nat.reduceEqDiff, Nat.reduceAdd, Nat.reduceMul, Nat.reduceLT, Nat.reduceBEq, Nat.reduceLeDiff, Nat.reduceSub]; cases hbb : decide (0 < k) <;> simp [pt, mE, mvE, mv, okM, okP, sgL, xiL]) (by simp -implicitDefEqProofs (disch := first | decide | exact of_eq_true (eq_true rfl) | omega | assumption) only [ valOK, sgL, xiL, mv, mvA, mvL, mvS, okS, okP, okM, okMA, okML, Option.getD_some, implies_true, and_self, true_or, or_true, Int.natCast_add, Int.cast_ofNat_Int, Nat.zero_mul, Nat.sub_self, openB_self, ↓vcD, vcE, ↓vcG, vcF, evs, evP, evB, intsOf, fillC, Value.cells, pt, Value.oneCell', reduceIte, reduceCtorEq, Nat.reduceEqDiff, Nat.reduceAdd, Nat.reduceMul, Nat.reduceLT, Nat.reduceBEq, Nat.reduceLeDiff, Nat.reduceSub]) (fun _ h => by cases h) ⟨rfl, fun _ h => by cases h⟩) ?_
      refine ITri.seq ?_
      have hg2 : (rows eN wb)[r.toNat]? = some (.int .i64 v) := by rw [← hV]; exact getN (by omega)
      by_cases hv : v ≤ life
      · have hv1 : decide (v ≤ life) = true := by simpa using hv
        refine ITri.reg pok ?_; simp -implicitDefEqProofs (disch := first | decide | exact of_eq_true (eq_true rfl) | omega | assumption) only [hg, Int.toNat_natCast,  ↓vcD, vcE, ↓vcG, vcF, evs, evP, evB, intsOf, fillC, Value.cells, pt, Value.oneCell', reduceIte, reduceCtorEq, Nat.reduceEqDiff, Nat.reduceAdd, Nat.reduceMul, Nat.reduceLT, Nat.reduceBEq, Nat.reduceLeDiff, Nat.reduceSub] -- r23
        refine ⟨_, _, start_ok (w := v) (by rw [rcL_len, hw]) (by rw [rtL_len, roL_len, hr]) hn8 hm12 ⟨r0, r1⟩ hkm hkr hrw (by omega) (by omega) (by omega) (by omega) hbit, ?_⟩
        try simp -implicitDefEqProofs (disch := first | decide | exact of_eq_true (eq_true rfl) | omega | assumption) only [ ↓vcD, vcE, ↓vcG, vcF, evs, evP, evB, intsOf, fillC, Value.cells, pt, Value.oneCell', reduceIte, reduceCtorEq, Nat.reduceEqDiff, Nat.reduceAdd, Nat.reduceMul, Nat.reduceLT, Nat.reduceBEq, Nat.reduceLeDiff, Nat.reduceSub]
        refine ITri.seq ?_
        refine ITri.reg pok ?_; simp -implicitDefEqProofs (disch := first | decide | exact of_eq_true (eq_true rfl) | omega | assumption) only [hg, hg2, hv1, decide_true, Int.toNat_natCast, b11, b00, d113,  ↓vcD, vcE, ↓vcG, vcF, evs, evP, evB, intsOf, fillC, Value.cells, pt, Value.oneCell', reduceIte, reduceCtorEq, Nat.reduceEqDiff, Nat.reduceAdd, Nat.reduceMul, Nat.reduceLT, Nat.reduceBEq, Nat.reduceLeDiff, Nat.reduceSub] -- r24
        refine ⟨_, _, works11_f, ?_⟩
        try simp -implicitDefEqProofs (disch := first | decide | exact of_eq_true (eq_true rfl) | omega | assumption) only [ ↓vcD, vcE, ↓vcG, vcF, evs, evP, evB, intsOf, fillC, Value.cells, pt, Value.oneCell', reduceIte, reduceCtorEq, Nat.reduceEqDiff, Nat.reduceAdd, Nat.reduceMul, Nat.reduceLT, Nat.reduceBEq, Nat.reduceLeDiff, Nat.reduceSub]
        refine ITri.ret ?_; exact EndR.plain (by simp) (by rfl) (by rfl) (by rfl)
      · have hv1 : decide (v ≤ life) = false := by simpa using hv
        refine ITri.reg pok ?_; simp -implicitDefEqProofs (disch := first | decide | exact of_eq_true (eq_true rfl) | omega | assumption) only [hg, Int.toNat_natCast,  ↓vcD, vcE, ↓vcG, vcF, evs, evP, evB, intsOf, fillC, Value.cells, pt, Value.oneCell', reduceIte, reduceCtorEq, Nat.reduceEqDiff, Nat.reduceAdd, Nat.reduceMul, Nat.reduceLT, Nat.reduceBEq, Nat.reduceLeDiff, Nat.reduceSub] -- r23
        refine ⟨_, _, start_worn (w := v) (by rw [rcL_len, hw]) (by rw [rtL_len, roL_len, hr]) hn8 hm12 ⟨r0, r1⟩ hkm hkr hrw (by omega) (by omega) (by omega) (by omega) hbit, ?_⟩
        try simp -implicitDefEqProofs (disch := first | decide | exact of_eq_true (eq_true rfl) | omega | assumption) only [ ↓vcD, vcE, ↓vcG, vcF, evs, evP, evB, intsOf, fillC, Value.cells, pt, Value.oneCell', reduceIte, reduceCtorEq, Nat.reduceEqDiff, Nat.reduceAdd, Nat.reduceMul, Nat.reduceLT, Nat.reduceBEq, Nat.reduceLeDiff, Nat.reduceSub]
        refine ITri.seq ?_
        refine ITri.reg pok ?_; simp -implicitDefEqProofs (disch := first | decide | exact of_eq_true (eq_true rfl) | omega | assumption) only [hg, hg2, hv1, decide_true, Int.toNat_natCast, b11, b00, d113,  ↓vcD, vcE, ↓vcG, vcF, evs, evP, evB, intsOf, fillC, Value.cells, pt, Value.oneCell', reduceIte, reduceCtorEq, Nat.reduceEqDiff, Nat.reduceAdd, Nat.reduceMul, Nat.reduceLT, Nat.reduceBEq, Nat.reduceLeDiff, Nat.reduceSub] -- r24
        refine ⟨_, _, works11_f, ?_⟩
        try simp -implicitDefEqProofs (disch := first | decide | exact of_eq_true (eq_true rfl) | omega | assumption) only [ ↓vcD, vcE, ↓vcG, vcF, evs, evP, evB, intsOf, fillC, Value.cells, pt, Value.oneCell', reduceIte, reduceCtorEq, Nat.reduceEqDiff, Nat.reduceAdd, Nat.reduceMul, Nat.reduceLT, Nat.reduceBEq, Nat.reduceLeDiff, Nat.reduceSub]
        refine ITri.ret ?_; exact EndR.plain (by simp) (by rfl) (by rfl) (by rfl)
    · have ho1 : agI n life wb rb (k + 1) = -1 := ov_miss ho (by simp only [decide_eq_false_iff_not]; omega)
      have hqk : q ≠ k := fun e => by
        rw [← hQ] at e
        have := ov_true e
        simp only [decide_eq_true_eq] at this
        omega
      refine ⟨_, _, start_ok (w := v) (by rw [rcL_len, hw]) (by rw [rtL_len, roL_len, hr]) hn8 hm12 ⟨r0, r1⟩ hkm hkr hrw (by omega) (by omega) (by omega) (by omega) hbit, ?_⟩
      try simp -implicitDefEqProofs (disch := first | decide | exact of_eq_true (eq_true rfl) | omega | assumption) only [ ↓vcD, vcE, ↓vcG, vcF, evs, evP, evB, intsOf, fillC, Value.cells, pt, Value.oneCell', reduceIte, reduceCtorEq, Nat.reduceEqDiff, Nat.reduceAdd, Nat.reduceMul, Nat.reduceLT, Nat.reduceBEq, Nat.reduceLeDiff, Nat.reduceSub]
      have k1 : decide ((k : Int) = q) = false := by simp only [decide_eq_false_iff_not]; exact fun e => hqk e.symm
      by_cases g : 0 ≤ q
      · have g1 : decide (0 ≤ q) = true := by simpa using g
        refine ITri.seq ?_
        refine ITri.seq ?_
        refine ITri.reg pok ?_; simp -implicitDefEqProofs (disch := first | decide | exact of_eq_true (eq_true rfl) | omega | assumption) only [k1, g1,  ↓vcD, vcE, ↓vcG, vcF, evs, evP, evB, intsOf, fillC, Value.cells, pt, Value.oneCell', reduceIte, reduceCtorEq, Nat.reduceEqDiff, Nat.reduceAdd, Nat.reduceMul, Nat.reduceLT, Nat.reduceBEq, Nat.reduceLeDiff, Nat.reduceSub] -- r20
        refine ITri.cond (v := false) rfl (fun h => by cases h) (fun _ => ?_); refine ITri.skip ?_; simp only [SeqQ_normal, BlkQ_normal]
        refine ITri.seq ?_
        refine ITri.reg pok ?_; simp -implicitDefEqProofs (disch := first | decide | exact of_eq_true (eq_true rfl) | omega | assumption) only [decide_true, Bool.not_true,  ↓vcD, vcE, ↓vcG, vcF, evs, evP, evB, intsOf, fillC, Value.cells, pt, Value.oneCell', reduceIte, reduceCtorEq, Nat.reduceEqDiff, Nat.reduceAdd, Nat.reduceMul, Nat.reduceLT, Nat.reduceBEq, Nat.reduceLeDiff, Nat.reduceSub] -- r25
        refine ⟨_, _, tick_x (t := 5 * k) (by rw [rtL_len, roL_len, hr]) hm12 hkm (fun i hi => by unfold rtL; rw [nth_map (by rw [roL_len]; omega)]) (by omega), ?_⟩
        simp -implicitDefEqProofs (disch := first | decide | exact of_eq_true (eq_true rfl) | omega | assumption) only [decide_true, Bool.not_true,  ↓vcD, vcE, ↓vcG, vcF, evs, evP, evB, intsOf, fillC, Value.cells, pt, Value.oneCell', reduceIte, reduceCtorEq, Nat.reduceEqDiff, Nat.reduceAdd, Nat.reduceMul, Nat.reduceLT, Nat.reduceBEq, Nat.reduceLeDiff, Nat.reduceSub]
        refine ITri.cond (v := false) rfl (fun h => by cases h) (fun _ => ?_); refine ITri.skip ?_; simp only [SeqQ_normal, BlkQ_normal]
        refine ITri.reg pok ?_; simp -implicitDefEqProofs (disch := first | decide | exact of_eq_true (eq_true rfl) | omega | assumption) only [ ↓vcD, vcE, ↓vcG, vcF, evs, evP, evB, intsOf, fillC, Value.cells, pt, Value.oneCell', reduceIte, reduceCtorEq, Nat.reduceEqDiff, Nat.reduceAdd, Nat.reduceMul, Nat.reduceLT, Nat.reduceBEq, Nat.reduceLeDiff, Nat.reduceSub] -- r18
        have e5 : (5 : Int) * k + 5 = 5 * ((k + 1 : Nat) : Int) := by omega
        have e6 : decide (0 < k + 1) = true := by simp
        refine LoopQ.next (k + 1) ⟨by omega, ho1⟩ (by omega) ?_
        rw [hsu, e5]
        exact Wk.gc [0, 1, 2, 3, 4, 5, 6, 7, 8, 9, 10, 11, 12, 13, 14, 15, 16] [] (of_decide_eq_true rfl) (of_decide_eq_true rfl) rfl rfl (of_decide_eq_true rfl) rfl rfl (by repeat (first | exact xiOK_nil | refine xiOK_cons (by first | trivial | exact roomOK _ (by decide)) ?_)) rfl (by simp -implicitDefEqProofs (disch := first | decide | exact of_eq_true (eq_true rfl) | omega | assumption) only [mE, e6, objOK, sgL, xiL, objAt, nilO, OM, mvL, mv, mvS, okS, okP, mvL_rows, okML, okM, okML_rows, List.getElem?_cons_zero, Option.getD_some, implies_true, imp_self, ne_eq, and_self, true_or, or_true, Nat.zero_mul, Nat.sub_self, openB_self, ↓vcD, vcE, ↓vcG, vcF, evs, evP, evB, intsOf, fillC, Value.cells, pt, Value.oneCell', reduceIte, reduceCtorEq, Nat.reduceEqDiff, Nat.reduceAdd, Nat.reduceMul, Nat.reduceLT, Nat.reduceBEq, Nat.reduceLeDiff, Nat.reduceSub]; simp [pt, mvE, mv, okM, okP, sgL, xiL]) (by simp -implicitDefEqProofs (disch := first | decide | exact of_eq_true (eq_true rfl) | omega | assumption) only [mE, e6, valOK, sgL, xiL, mv, mvA, mvL, mvS, okS, okP, okM, okMA, okML, Option.getD_some, implies_true, and_self, true_or, or_true, Int.natCast_add, Int.cast_ofNat_Int, Nat.zero_mul, Nat.sub_self, openB_self, ↓vcD, vcE, ↓vcG, vcF, evs, evP, evB, intsOf, fillC, Value.cells, pt, Value.oneCell', reduceIte, reduceCtorEq, Nat.reduceEqDiff, Nat.reduceAdd, Nat.reduceMul, Nat.reduceLT, Nat.reduceBEq, Nat.reduceLeDiff, Nat.reduceSub]) (fun _ h => by cases h) ⟨rfl, fun _ h => by cases h⟩
      · have g1 : decide (0 ≤ q) = false := by simpa using g
        refine ITri.seq ?_
        refine ITri.seq ?_
        refine ITri.reg pok ?_; simp -implicitDefEqProofs (disch := first | decide | exact of_eq_true (eq_true rfl) | omega | assumption) only [k1, g1,  ↓vcD, vcE, ↓vcG, vcF, evs, evP, evB, intsOf, fillC, Value.cells, pt, Value.oneCell', reduceIte, reduceCtorEq, Nat.reduceEqDiff, Nat.reduceAdd, Nat.reduceMul, Nat.reduceLT, Nat.reduceBEq, Nat.reduceLeDiff, Nat.reduceSub] -- r20
        refine ITri.cond (v := false) rfl (fun h => by cases h) (fun _ => ?_); refine ITri.skip ?_; simp only [SeqQ_normal, BlkQ_normal]
        refine ITri.seq ?_
        refine ITri.reg pok ?_; simp -implicitDefEqProofs (disch := first | decide | exact of_eq_true (eq_true rfl) | omega | assumption) only [decide_true, Bool.not_true,  ↓vcD, vcE, ↓vcG, vcF, evs, evP, evB, intsOf, fillC, Value.cells, pt, Value.oneCell', reduceIte, reduceCtorEq, Nat.reduceEqDiff, Nat.reduceAdd, Nat.reduceMul, Nat.reduceLT, Nat.reduceBEq, Nat.reduceLeDiff, Nat.reduceSub] -- r25
        refine ⟨_, _, tick_x (t := 5 * k) (by rw [rtL_len, roL_len, hr]) hm12 hkm (fun i hi => by unfold rtL; rw [nth_map (by rw [roL_len]; omega)]) (by omega), ?_⟩
        simp -implicitDefEqProofs (disch := first | decide | exact of_eq_true (eq_true rfl) | omega | assumption) only [decide_true, Bool.not_true,  ↓vcD, vcE, ↓vcG, vcF, evs, evP, evB, intsOf, fillC, Value.cells, pt, Value.oneCell', reduceIte, reduceCtorEq, Nat.reduceEqDiff, Nat.reduceAdd, Nat.reduceMul, Nat.reduceLT, Nat.reduceBEq, Nat.reduceLeDiff, Nat.reduceSub]
        refine ITri.cond (v := false) rfl (fun h => by cases h) (fun _ => ?_); refine ITri.skip ?_; simp only [SeqQ_normal, BlkQ_normal]
        refine ITri.reg pok ?_; simp -implicitDefEqProofs (disch := first | decide | exact of_eq_true (eq_true rfl) | omega | assumption) only [ ↓vcD, vcE, ↓vcG, vcF, evs, evP, evB, intsOf, fillC, Value.cells, pt, Value.oneCell', reduceIte, reduceCtorEq, Nat.reduceEqDiff, Nat.reduceAdd, Nat.reduceMul, Nat.reduceLT, Nat.reduceBEq, Nat.reduceLeDiff, Nat.reduceSub] -- r18
        have e5 : (5 : Int) * k + 5 = 5 * ((k + 1 : Nat) : Int) := by omega
        have e6 : decide (0 < k + 1) = true := by simp
        refine LoopQ.next (k + 1) ⟨by omega, ho1⟩ (by omega) ?_
        rw [hsu, e5]
        exact Wk.gc [0, 1, 2, 3, 4, 5, 6, 7, 8, 9, 10, 11, 12, 13, 14, 15, 16] [] (of_decide_eq_true rfl) (of_decide_eq_true rfl) rfl rfl (of_decide_eq_true rfl) rfl rfl (by repeat (first | exact xiOK_nil | refine xiOK_cons (by first | trivial | exact roomOK _ (by decide)) ?_)) rfl (by simp -implicitDefEqProofs (disch := first | decide | exact of_eq_true (eq_true rfl) | omega | assumption) only [mE, e6, objOK, sgL, xiL, objAt, nilO, OM, mvL, mv, mvS, okS, okP, mvL_rows, okML, okM, okML_rows, List.getElem?_cons_zero, Option.getD_some, implies_true, imp_self, ne_eq, and_self, true_or, or_true, Nat.zero_mul, Nat.sub_self, openB_self, ↓vcD, vcE, ↓vcG, vcF, evs, evP, evB, intsOf, fillC, Value.cells, pt, Value.oneCell', reduceIte, reduceCtorEq, Nat.reduceEqDiff, Nat.reduceAdd, Nat.reduceMul, Nat.reduceLT, Nat.reduceBEq, Nat.reduceLeDiff, Nat.reduceSub]; simp [pt, mvE, mv, okM, okP, sgL, xiL]) (by simp -implicitDefEqProofs (disch := first | decide | exact of_eq_true (eq_true rfl) | omega | assumption) only [mE, e6, valOK, sgL, xiL, mv, mvA, mvL, mvS, okS, okP, okM, okMA, okML, Option.getD_some, implies_true, and_self, true_or, or_true, Int.natCast_add, Int.cast_ofNat_Int, Nat.zero_mul, Nat.sub_self, openB_self, ↓vcD, vcE, ↓vcG, vcF, evs, evP, evB, intsOf, fillC, Value.cells, pt, Value.oneCell', reduceIte, reduceCtorEq, Nat.reduceEqDiff, Nat.reduceAdd, Nat.reduceMul, Nat.reduceLT, Nat.reduceBEq, Nat.reduceLeDiff, Nat.reduceSub]) (fun _ h => by cases h) ⟨rfl, fun _ h => by cases h⟩
  refine ITri.exit ?_; try simp -implicitDefEqProofs (disch := first | decide | exact of_eq_true (eq_true rfl) | omega | assumption) only [ ↓vcD, vcE, ↓vcG, vcF, evs, evP, evB, intsOf, fillC, Value.cells, pt, Value.oneCell', reduceIte, reduceCtorEq, Nat.reduceEqDiff, Nat.reduceAdd, Nat.reduceMul, Nat.reduceLT, Nat.reduceBEq, Nat.reduceLeDiff, Nat.reduceSub]
  obtain rfl : m = k := by omega
  have hq1 : q = -1 := by rw [← hQ, ho]
  subst hq1
  refine ITri.seq ?_
  refine ITri.reg pok ?_; simp -implicitDefEqProofs (disch := first | decide | exact of_eq_true (eq_true rfl) | omega | assumption) only [ ↓vcD, vcE, ↓vcG, vcF, evs, evP, evB, intsOf, fillC, Value.cells, pt, Value.oneCell', reduceIte, reduceCtorEq, Nat.reduceEqDiff, Nat.reduceAdd, Nat.reduceMul, Nat.reduceLT, Nat.reduceBEq, Nat.reduceLeDiff, Nat.reduceSub] -- r27
  refine ⟨_, _, lotS_x, ?_⟩
  try simp -implicitDefEqProofs (disch := first | decide | exact of_eq_true (eq_true rfl) | omega | assumption) only [ ↓vcD, vcE, ↓vcG, vcF, evs, evP, evB, intsOf, fillC, Value.cells, pt, Value.oneCell', reduceIte, reduceCtorEq, Nat.reduceEqDiff, Nat.reduceAdd, Nat.reduceMul, Nat.reduceLT, Nat.reduceBEq, Nat.reduceLeDiff, Nat.reduceSub]
  refine ITri.seq ?_
  refine ITri.reg pok ?_; simp -implicitDefEqProofs (disch := first | decide | exact of_eq_true (eq_true rfl) | omega | assumption) only [decide_true,  ↓vcD, vcE, ↓vcG, vcF, evs, evP, evB, intsOf, fillC, Value.cells, pt, Value.oneCell', reduceIte, reduceCtorEq, Nat.reduceEqDiff, Nat.reduceAdd, Nat.reduceMul, Nat.reduceLT, Nat.reduceBEq, Nat.reduceLeDiff, Nat.reduceSub] -- r28
  refine ⟨_, _, works11_f, ?_⟩
  try simp -implicitDefEqProofs (disch := first | decide | exact of_eq_true (eq_true rfl) | omega | assumption) only [ ↓vcD, vcE, ↓vcG, vcF, evs, evP, evB, intsOf, fillC, Value.cells, pt, Value.oneCell', reduceIte, reduceCtorEq, Nat.reduceEqDiff, Nat.reduceAdd, Nat.reduceMul, Nat.reduceLT, Nat.reduceBEq, Nat.reduceLeDiff, Nat.reduceSub]
  refine ITri.ret ?_; exact EndR.plain (by simp) (by rfl) (by rfl) (by rfl)
theorem worn_law (n cn m cm : Nat) (wb rb : List Int) (life : Int) (hw : wb.length = n) (hr : rb.length = m) (hl : 0 ≤ life ∧ life ≤ 255) (hwb : ∀ x ∈ wb, 0 ≤ x ∧ x ≤ 255) (hrb : ∀ x ∈ rb, 0 ≤ x ∧ x ≤ 255) :
    Fc Try.prog 5 [.slice (some ⟨1, 0, none⟩) n cn, .int .u8 life, .slice (some ⟨2, 0, none⟩) m cm] (Hp 3 [none, aO wb, aO rb]) (.bool true) (Hp 3 [none, aO wb, aO rb]) :=
  worn_c n cn m cm wb rb life hw hr hl (fun i hi => hwb _ (nth_mem (by omega))) (fun i hi => hrb _ (nth_mem (by omega)))
end Go.Proofs.Ythoigkgjidcklaa
