/-
  Chapter 8 at the top: the law TopPortions, by names.
-/
import Derived.Test.YtlhhkmkclmedgaaPorO
set_option linter.unusedSimpArgs false
set_option linter.unusedVariables false
namespace Go.Proofs.Ytlhhkmkclmedgaa
open Go.RowKit Go.Vm
set_option maxRecDepth 100000

/- boule/bouletop.TopPortions · slots 198 · names 0:c 1:length 2:n 3:c 4:length 5:n 7:p 8:ok 9:l 10:i 11:top 12:kerfs 13:slices 14:bottom 15:e 16:want 17:f 18:i · results [6] -/
def ir3_r0 : IC := .reg [⟨some 3, none, false, .box (.t 0)⟩,
  ⟨some 6, none, false, .mv (.k (.bool false))⟩] (some [1, 2, 3])
def ir3_r1 : IC := .reg [⟨some 19, none, false, .fad 5 (.t 3)⟩,
  ⟨some 20, none, false, .fad 1 (.t 19)⟩,
  ⟨some 21, none, false, .ldc (.t 20)⟩,
  ⟨some 22, none, false, .cmp .gtr (.t 21) (.k (.int .i64 40))⟩] (some [1, 2, 3, 22])
def ir3_r2 : IC := .reg [⟨some 23, none, false, .call (.f 6) []⟩,
  ⟨some 6, none, false, .mv (.t 23)⟩] (some [6])
def ir3_1 : IC := .seq ir3_r2 .ret
def ir3_2 : IC := .cond (.t 22) ir3_1 .skip
def ir3_3 : IC := .seq ir3_r1 ir3_2
def ir3_r3 : IC := .reg [⟨some 25, none, false, .lda 11 (.t 3)⟩,
  ⟨some 26, none, false, .mv (.t 1)⟩,
  ⟨some 27, none, false, .call (.f 7) [(.t 25), (.t 26)]⟩,
  ⟨some 24, none, false, .mv (.t 27)⟩,
  ⟨some 28, none, false, .ext (.t 24) 0⟩,
  ⟨some 29, none, false, .ext (.t 24) 1⟩,
  ⟨some 7, none, false, .alloc [(.slice none 0 0), (.slice none 0 0), (.int .i64 0), (.int .i64 0)]⟩,
  ⟨none, none, false, .st 4 (.t 7) (.t 28)⟩,
  ⟨some 8, none, false, .mv (.t 29)⟩] (some [1, 2, 3, 7, 8])
def ir3_r4 : IC := .reg [⟨some 30, none, false, .mv (.t 8)⟩,
  ⟨some 31, none, false, .not (.t 30)⟩] (some [1, 2, 3, 7, 31])
def ir3_r5 : IC := .reg [⟨some 32, none, false, .fad 0 (.t 3)⟩,
  ⟨some 33, none, false, .lda 5 (.t 32)⟩,
  ⟨some 34, none, false, .fad 5 (.t 3)⟩,
  ⟨some 35, none, false, .lda 5 (.t 34)⟩,
  ⟨some 36, none, false, .mv (.t 1)⟩,
  ⟨some 37, none, false, .call (.f 8) [(.t 33), (.t 35), (.t 36)]⟩,
  ⟨some 38, none, false, .cmp .neq (.t 37) (.k (.int .i64 0))⟩,
  ⟨some 39, none, false, .mv (.t 38)⟩,
  ⟨some 40, some (39, true), false, .call (.f 6) []⟩,
  ⟨some 41, none, false, .pick (.t 39) (.t 40) (.k (.bool false))⟩,
  ⟨some 6, none, false, .mv (.t 41)⟩] (some [6])
def ir3_4 : IC := .seq ir3_r5 .ret
def ir3_5 : IC := .cond (.t 31) ir3_4 .skip
def ir3_6 : IC := .seq ir3_r4 ir3_5
def ir3_r6 : IC := .reg [⟨some 42, none, false, .fad 2 (.t 7)⟩,
  ⟨some 43, none, false, .ldc (.t 42)⟩,
  ⟨some 44, none, false, .bsl 1 1 [(.int .i64 0)] [(0, (.t 43))]⟩,
  ⟨some 9, none, false, .mv (.t 44)⟩] (some [2, 7, 9])
def ir3_r7 : IC := .reg [⟨some 10, none, false, .mv (.k (.int .i64 0))⟩] (some [2, 7, 9, 10])
def ir3_r8 : IC := .reg [⟨some 45, none, false, .mv (.t 10)⟩,
  ⟨some 46, none, false, .fad 1 (.t 7)⟩,
  ⟨some 47, none, false, .ldc (.t 46)⟩,
  ⟨some 48, none, false, .len (.t 47)⟩,
  ⟨some 49, none, false, .cmp .lss (.t 45) (.t 48)⟩] (some [2, 7, 9, 10, 49])
def ir3_7 : IC := .cond (.t 49) .skip (.exit 0)
def ir3_8 : IC := .seq ir3_r8 ir3_7
def ir3_r10 : IC := .reg [⟨some 52, none, false, .mv (.t 9)⟩,
  ⟨some 53, none, false, .fad 1 (.t 7)⟩,
  ⟨some 54, none, false, .ldc (.t 53)⟩,
  ⟨some 55, none, false, .mv (.t 10)⟩,
  ⟨some 56, none, false, .iad 1 (.t 54) (.t 55)⟩,
  ⟨some 57, none, false, .ldc (.t 56)⟩,
  ⟨some 58, none, false, .bsl 1 1 [(.int .i64 0)] [(0, (.t 57))]⟩,
  ⟨some 59, none, false, .app 1 8 (.t 52) (.t 58)⟩,
  ⟨some 9, none, false, .mv (.t 59)⟩] (some [2, 7, 9, 10])
def ir3_r11 : IC := .reg [⟨some 60, none, false, .mv (.t 10)⟩,
  ⟨some 61, none, false, .fad 0 (.t 7)⟩,
  ⟨some 62, none, false, .ldc (.t 61)⟩,
  ⟨some 63, none, false, .len (.t 62)⟩,
  ⟨some 64, none, false, .cmp .lss (.t 60) (.t 63)⟩] (some [2, 7, 9, 10, 64])
def ir3_r12 : IC := .reg [⟨some 65, none, false, .mv (.t 9)⟩,
  ⟨some 66, none, false, .fad 0 (.t 7)⟩,
  ⟨some 67, none, false, .ldc (.t 66)⟩,
  ⟨some 68, none, false, .mv (.t 10)⟩,
  ⟨some 69, none, false, .iad 1 (.t 67) (.t 68)⟩,
  ⟨some 70, none, false, .ldc (.t 69)⟩,
  ⟨some 71, none, false, .bsl 1 1 [(.int .i64 0)] [(0, (.t 70))]⟩,
  ⟨some 72, none, false, .app 1 8 (.t 65) (.t 71)⟩,
  ⟨some 9, none, false, .mv (.t 72)⟩] (some [2, 7, 9, 10])
def ir3_9 : IC := .cond (.t 64) ir3_r12 .skip
def ir3_10 : IC := .seq ir3_r11 ir3_9
def ir3_11 : IC := .seq ir3_r10 ir3_10
def ir3_12 : IC := .block 1 ir3_11
def ir3_r9 : IC := .reg [⟨some 50, none, false, .mv (.t 10)⟩,
  ⟨some 51, none, false, .ar .add (.t 50) (.k (.int .i64 1))⟩,
  ⟨some 10, none, false, .mv (.t 51)⟩] (some [2, 7, 9, 10])
def ir3_13 : IC := .seq ir3_12 ir3_r9
def ir3_14 : IC := .seq ir3_8 ir3_13
def ir3_15 : IC := .loop ir3_14
def ir3_16 : IC := .block 0 ir3_15
def ir3_17 : IC := .seq ir3_r7 ir3_16
def ir3_r13 : IC := .reg [⟨some 73, none, false, .mv (.t 9)⟩,
  ⟨some 74, none, false, .fad 3 (.t 7)⟩,
  ⟨some 75, none, false, .ldc (.t 74)⟩,
  ⟨some 76, none, false, .bsl 1 1 [(.int .i64 0)] [(0, (.t 75))]⟩,
  ⟨some 77, none, false, .app 1 8 (.t 73) (.t 76)⟩,
  ⟨some 9, none, false, .mv (.t 77)⟩] (some [2, 7, 9])
def ir3_r14 : IC := .reg [⟨some 79, none, false, .mv (.t 2)⟩,
  ⟨some 80, none, false, .lda 4 (.t 7)⟩,
  ⟨some 81, none, false, .call (.f 9) [(.t 79), (.t 80)]⟩,
  ⟨some 78, none, false, .mv (.t 81)⟩,
  ⟨some 82, none, false, .ext (.t 78) 0⟩,
  ⟨some 83, none, false, .ext (.t 78) 1⟩,
  ⟨some 84, none, false, .ext (.t 78) 2⟩,
  ⟨some 85, none, false, .ext (.t 78) 3⟩,
  ⟨some 86, none, false, .ext (.t 78) 4⟩,
  ⟨some 11, none, false, .mv (.t 82)⟩,
  ⟨some 12, none, false, .mv (.t 83)⟩,
  ⟨some 13, none, false, .mv (.t 84)⟩,
  ⟨some 14, none, false, .mv (.t 85)⟩,
  ⟨some 15, none, false, .mv (.t 86)⟩] (some [2, 7, 9, 11, 12, 13, 14, 15])
def ir3_r15 : IC := .reg [⟨some 88, none, false, .mv (.t 2)⟩,
  ⟨some 89, none, false, .bsl 1 0 [] []⟩,
  ⟨some 90, none, false, .mv (.t 9)⟩,
  ⟨some 91, none, false, .app 1 8 (.t 89) (.t 90)⟩,
  ⟨some 92, none, false, .call (.f 10) [(.t 88), (.t 91)]⟩,
  ⟨some 87, none, false, .mv (.t 92)⟩,
  ⟨some 93, none, false, .ext (.t 87) 0⟩,
  ⟨some 94, none, false, .ext (.t 87) 1⟩,
  ⟨some 16, none, false, .mv (.t 93)⟩,
  ⟨some 17, none, false, .mv (.t 94)⟩] (some [7, 9, 11, 12, 13, 14, 15, 16, 17])
def ir3_r16 : IC := .reg [⟨some 95, none, false, .mv (.t 17)⟩,
  ⟨some 96, none, false, .cmp .neq (.t 95) (.k (.int .i64 0))⟩] (some [7, 9, 11, 12, 13, 14, 15, 16, 17, 96])
def ir3_r17 : IC := .reg [⟨some 97, none, false, .mv (.t 15)⟩,
  ⟨some 98, none, false, .mv (.t 17)⟩,
  ⟨some 99, none, false, .cmp .eql (.t 97) (.t 98)⟩,
  ⟨some 100, none, false, .mv (.t 99)⟩,
  ⟨some 101, some (100, true), false, .mv (.t 11)⟩,
  ⟨some 102, some (100, true), false, .cmp .eql (.t 101) (.k (.int .i64 0))⟩,
  ⟨some 103, none, false, .pick (.t 100) (.t 102) (.k (.bool false))⟩,
  ⟨some 104, none, false, .mv (.t 103)⟩,
  ⟨some 105, some (104, true), false, .mv (.t 14)⟩,
  ⟨some 106, some (104, true), false, .cmp .eql (.t 105) (.k (.int .i64 0))⟩,
  ⟨some 107, none, false, .pick (.t 104) (.t 106) (.k (.bool false))⟩,
  ⟨some 108, none, false, .mv (.t 107)⟩,
  ⟨some 109, some (108, true), false, .mv (.t 12)⟩,
  ⟨some 110, some (108, true), false, .len (.t 109)⟩,
  ⟨some 111, some (108, true), false, .mv (.t 13)⟩,
  ⟨some 112, some (108, true), false, .len (.t 111)⟩,
  ⟨some 113, some (108, true), false, .ar .add (.t 110) (.t 112)⟩,
  ⟨some 114, some (108, true), false, .cmp .eql (.t 113) (.k (.int .i64 0))⟩,
  ⟨some 115, none, false, .pick (.t 108) (.t 114) (.k (.bool false))⟩,
  ⟨some 116, none, false, .mv (.t 115)⟩,
  ⟨some 117, some (116, true), false, .call (.f 6) []⟩,
  ⟨some 118, none, false, .pick (.t 116) (.t 117) (.k (.bool false))⟩,
  ⟨some 6, none, false, .mv (.t 118)⟩] (some [6])
def ir3_18 : IC := .seq ir3_r17 .ret
def ir3_19 : IC := .cond (.t 96) ir3_18 .skip
def ir3_20 : IC := .seq ir3_r16 ir3_19
def ir3_r18 : IC := .reg [⟨some 119, none, false, .mv (.t 15)⟩,
  ⟨some 120, none, false, .cmp .neq (.t 119) (.k (.int .i64 0))⟩,
  ⟨some 121, none, false, .mv (.t 120)⟩,
  ⟨some 122, some (121, false), false, .mv (.t 12)⟩,
  ⟨some 123, some (121, false), false, .len (.t 122)⟩,
  ⟨some 124, some (121, false), false, .fad 1 (.t 7)⟩,
  ⟨some 125, some (121, false), false, .ldc (.t 124)⟩,
  ⟨some 126, some (121, false), false, .len (.t 125)⟩,
  ⟨some 127, some (121, false), false, .cmp .neq (.t 123) (.t 126)⟩,
  ⟨some 128, none, false, .pick (.t 121) (.k (.bool true)) (.t 127)⟩,
  ⟨some 129, none, false, .mv (.t 128)⟩,
  ⟨some 130, some (129, false), false, .mv (.t 13)⟩,
  ⟨some 131, some (129, false), false, .len (.t 130)⟩,
  ⟨some 132, some (129, false), false, .fad 0 (.t 7)⟩,
  ⟨some 133, some (129, false), false, .ldc (.t 132)⟩,
  ⟨some 134, some (129, false), false, .len (.t 133)⟩,
  ⟨some 135, some (129, false), false, .cmp .neq (.t 131) (.t 134)⟩,
  ⟨some 136, none, false, .pick (.t 129) (.k (.bool true)) (.t 135)⟩,
  ⟨some 137, none, false, .mv (.t 136)⟩,
  ⟨some 138, some (137, false), false, .mv (.t 16)⟩,
  ⟨some 139, some (137, false), false, .len (.t 138)⟩,
  ⟨some 140, some (137, false), false, .mv (.t 9)⟩,
  ⟨some 141, some (137, false), false, .len (.t 140)⟩,
  ⟨some 142, some (137, false), false, .cmp .neq (.t 139) (.t 141)⟩,
  ⟨some 143, none, false, .pick (.t 137) (.k (.bool true)) (.t 142)⟩,
  ⟨some 144, none, false, .mv (.t 143)⟩,
  ⟨some 145, some (144, false), false, .mv (.t 11)⟩,
  ⟨some 146, some (144, false), false, .mv (.t 16)⟩,
  ⟨some 147, some (144, false), false, .iad 1 (.t 146) (.k (.int .i64 0))⟩,
  ⟨some 148, some (144, false), false, .ldc (.t 147)⟩,
  ⟨some 149, some (144, false), false, .cmp .neq (.t 145) (.t 148)⟩,
  ⟨some 150, none, false, .pick (.t 144) (.k (.bool true)) (.t 149)⟩,
  ⟨some 151, none, false, .mv (.t 150)⟩,
  ⟨some 152, some (151, false), false, .mv (.t 14)⟩,
  ⟨some 153, some (151, false), false, .mv (.t 16)⟩,
  ⟨some 154, some (151, false), false, .mv (.t 16)⟩,
  ⟨some 155, some (151, false), false, .len (.t 154)⟩,
  ⟨some 156, some (151, false), false, .ar .sub (.t 155) (.k (.int .i64 1))⟩,
  ⟨some 157, some (151, false), false, .iad 1 (.t 153) (.t 156)⟩,
  ⟨some 158, some (151, false), false, .ldc (.t 157)⟩,
  ⟨some 159, some (151, false), false, .cmp .neq (.t 152) (.t 158)⟩,
  ⟨some 160, none, false, .pick (.t 151) (.k (.bool true)) (.t 159)⟩] (some [12, 13, 16, 160])
def ir3_r19 : IC := .reg [⟨some 6, none, false, .mv (.k (.bool false))⟩] (some [6])
def ir3_21 : IC := .seq ir3_r19 .ret
def ir3_22 : IC := .cond (.t 160) ir3_21 .skip
def ir3_23 : IC := .seq ir3_r18 ir3_22
def ir3_r20 : IC := .reg [⟨some 18, none, false, .mv (.k (.int .i64 0))⟩] (some [12, 13, 16, 18])
def ir3_r21 : IC := .reg [⟨some 161, none, false, .mv (.t 18)⟩,
  ⟨some 162, none, false, .mv (.t 12)⟩,
  ⟨some 163, none, false, .len (.t 162)⟩,
  ⟨some 164, none, false, .cmp .lss (.t 161) (.t 163)⟩] (some [12, 13, 16, 18, 164])
def ir3_24 : IC := .cond (.t 164) .skip (.exit 2)
def ir3_25 : IC := .seq ir3_r21 ir3_24
def ir3_r23 : IC := .draw [(⟨some 167, none, false, .mv (.t 12)⟩, false, 0, 0),
  (⟨some 168, none, false, .mv (.t 18)⟩, false, 0, 0),
  (⟨some 169, none, false, .iad 1 (.t 167) (.t 168)⟩, false, 3, 0),
  (⟨some 170, none, false, .ldc (.t 169)⟩, false, 7, 1),
  (⟨some 171, none, false, .mv (.t 16)⟩, false, 0, 0),
  (⟨some 172, none, false, .mv (.t 18)⟩, false, 0, 0),
  (⟨some 173, none, false, .ar .mul (.k (.int .i64 2)) (.t 172)⟩, false, 32, 0),
  (⟨some 174, none, false, .ar .add (.k (.int .i64 1)) (.t 173)⟩, false, 96, 0),
  (⟨some 175, none, false, .iad 1 (.t 171) (.t 174)⟩, false, 240, 0),
  (⟨some 176, none, false, .ldc (.t 175)⟩, false, 496, 8),
  (⟨some 177, none, false, .cmp .neq (.t 170) (.t 176)⟩, false, 1023, 0),
  (⟨some 178, none, false, .mv (.t 177)⟩, false, 2047, 0),
  (⟨some 179, some (178, false), false, .mv (.t 18)⟩, false, 4095, 0),
  (⟨some 180, some (178, false), false, .mv (.t 13)⟩, false, 4095, 0),
  (⟨some 181, some (178, false), false, .len (.t 180)⟩, true, 12287, 0),
  (⟨some 182, some (178, false), false, .cmp .lss (.t 179) (.t 181)⟩, false, 32767, 0),
  (⟨some 183, some (178, false), false, .mv (.t 182)⟩, false, 65535, 0),
  (⟨some 184, some (183, true), false, .mv (.t 13)⟩, false, 131071, 0),
  (⟨some 185, some (183, true), false, .mv (.t 18)⟩, false, 131071, 0),
  (⟨some 186, some (183, true), false, .iad 1 (.t 184) (.t 185)⟩, false, 524287, 0),
  (⟨some 187, some (183, true), false, .ldc (.t 186)⟩, false, 1048575, 1),
  (⟨some 188, some (183, true), false, .mv (.t 16)⟩, false, 131071, 0),
  (⟨some 189, some (183, true), false, .mv (.t 18)⟩, false, 131071, 0),
  (⟨some 190, some (183, true), false, .ar .mul (.k (.int .i64 2)) (.t 189)⟩, false, 4325375, 0),
  (⟨some 191, some (183, true), false, .ar .add (.k (.int .i64 2)) (.t 190)⟩, false, 12713983, 0),
  (⟨some 192, some (183, true), false, .iad 1 (.t 188) (.t 191)⟩, false, 31588351, 0),
  (⟨some 193, some (183, true), false, .ldc (.t 192)⟩, false, 65142783, 1048576),
  (⟨some 194, some (183, true), false, .cmp .neq (.t 187) (.t 193)⟩, false, 134217727, 0),
  (⟨some 195, some (178, false), false, .pick (.t 183) (.t 194) (.k (.bool false))⟩, false, 268435455, 0),
  (⟨some 196, none, false, .pick (.t 178) (.k (.bool true)) (.t 195)⟩, false, 536870911, 0)] (some [12, 13, 16, 18, 196])
def ir3_r24 : IC := .reg [⟨some 6, none, false, .mv (.k (.bool false))⟩] (some [6])
def ir3_26 : IC := .seq ir3_r24 .ret
def ir3_27 : IC := .cond (.t 196) ir3_26 .skip
def ir3_28 : IC := .seq ir3_r23 ir3_27
def ir3_29 : IC := .block 3 ir3_28
def ir3_r22 : IC := .reg [⟨some 165, none, false, .mv (.t 18)⟩,
  ⟨some 166, none, false, .ar .add (.t 165) (.k (.int .i64 1))⟩,
  ⟨some 18, none, false, .mv (.t 166)⟩] (some [12, 13, 16, 18])
def ir3_30 : IC := .seq ir3_29 ir3_r22
def ir3_31 : IC := .seq ir3_25 ir3_30
def ir3_32 : IC := .loop ir3_31
def ir3_33 : IC := .block 2 ir3_32
def ir3_34 : IC := .seq ir3_r20 ir3_33
def ir3_r25 : IC := .reg [⟨some 197, none, false, .call (.f 6) []⟩,
  ⟨some 6, none, false, .mv (.t 197)⟩] (some [6])
def ir3_35 : IC := .seq ir3_r25 .ret
def ir3_36 : IC := .seq ir3_34 ir3_35
def ir3_37 : IC := .seq ir3_23 ir3_36
def ir3_38 : IC := .seq ir3_20 ir3_37
def ir3_39 : IC := .seq ir3_r15 ir3_38
def ir3_40 : IC := .seq ir3_r14 ir3_39
def ir3_41 : IC := .seq ir3_r13 ir3_40
def ir3_42 : IC := .seq ir3_17 ir3_41
def ir3_43 : IC := .seq ir3_r6 ir3_42
def ir3_44 : IC := .seq ir3_6 ir3_43
def ir3_45 : IC := .seq ir3_r3 ir3_44
def ir3_46 : IC := .seq ir3_3 ir3_45
def ir3_47 : IC := .seq ir3_r0 ir3_46
def ir3 : IC := ir3_47
theorem fn3 : FnIs Try.prog 3 ir3 198 [.tmp 6] := ⟨Try.f3, Try.f3.body.getD .skip, Try.func3, by kernel_rfl, by kernel_rfl, by kernel_rfl, by kernel_rfl⟩
set_option maxHeartbeats 4000000 in
theorem portionsLaw_c (c : Wb) (len n : Int) (t : List Int) (nt ct : Nat) (hnt : t.length = nt) (ht : ∀ x ∈ t, 0 ≤ x ∧ x ≤ 255) :
    Fc Try.prog 3 [cutV c (s1 nt ct), .int .i64 len, .int .i64 n] (H1 (rows eY t)) (.bool true) (H1 (rows eY t)) := by
  refine Fc.intro0 fn3 (by simp) rfl rfl ?_; simp only [argF]
  refine ITri.seq ?_
  refine ITri.reg pok ?_; simp -implicitDefEqProofs (disch := first | decide | exact of_eq_true (eq_true rfl) | omega | assumption) only [ ↓vcD, vcE, ↓vcG, vcF, evs, evP, evB, intsOf, fillC, Value.cells, pt, Value.oneCell', reduceIte, reduceCtorEq, Nat.reduceEqDiff, Nat.reduceAdd, Nat.reduceMul, Nat.reduceLT, Nat.reduceBEq, Nat.reduceLeDiff, Nat.reduceSub] -- r0 top08.go:51
  refine ITri.seq ?_
  refine ITri.seq ?_
  by_cases hg : 40 < c.g
  · refine ITri.reg pok ?_; simp -implicitDefEqProofs (disch := first | decide | exact of_eq_true (eq_true rfl) | omega | assumption) only [hg, decide_true,  ↓vcD, vcE, ↓vcG, vcF, evs, evP, evB, intsOf, fillC, Value.cells, pt, Value.oneCell', reduceIte, reduceCtorEq, Nat.reduceEqDiff, Nat.reduceAdd, Nat.reduceMul, Nat.reduceLT, Nat.reduceBEq, Nat.reduceLeDiff, Nat.reduceSub] -- r1
    refine ITri.cond (v := true) rfl (fun _ => ?_) (fun h => by cases h)
    refine ITri.seq ?_
    refine ITri.reg pok ?_; simp -implicitDefEqProofs (disch := first | decide | exact of_eq_true (eq_true rfl) | omega | assumption) only [ ↓vcD, vcE, ↓vcG, vcF, evs, evP, evB, intsOf, fillC, Value.cells, pt, Value.oneCell', reduceIte, reduceCtorEq, Nat.reduceEqDiff, Nat.reduceAdd, Nat.reduceMul, Nat.reduceLT, Nat.reduceBEq, Nat.reduceLeDiff, Nat.reduceSub] -- r2
    refine ⟨_, _, sliced_f, ?_⟩
    try simp -implicitDefEqProofs (disch := first | decide | exact of_eq_true (eq_true rfl) | omega | assumption) only [ ↓vcD, vcE, ↓vcG, vcF, evs, evP, evB, intsOf, fillC, Value.cells, pt, Value.oneCell', reduceIte, reduceCtorEq, Nat.reduceEqDiff, Nat.reduceAdd, Nat.reduceMul, Nat.reduceLT, Nat.reduceBEq, Nat.reduceLeDiff, Nat.reduceSub]
    refine ITri.ret ?_; exact EndR.plain (by simp) (by rfl) (by rfl) (by rfl)
  refine ITri.reg pok ?_; simp -implicitDefEqProofs (disch := first | decide | exact of_eq_true (eq_true rfl) | omega | assumption) only [hg, decide_false,  ↓vcD, vcE, ↓vcG, vcF, evs, evP, evB, intsOf, fillC, Value.cells, pt, Value.oneCell', reduceIte, reduceCtorEq, Nat.reduceEqDiff, Nat.reduceAdd, Nat.reduceMul, Nat.reduceLT, Nat.reduceBEq, Nat.reduceLeDiff, Nat.reduceSub] -- r1
  refine ITri.cond (v := false) rfl (fun h => by cases h) (fun _ => ?_); refine ITri.skip ?_; simp only [SeqQ_normal, BlkQ_normal]
  refine ITri.seq ?_
  by_cases hV : ckE c len = 0
  rotate_left
  · refine ITri.reg pok ?_; simp -implicitDefEqProofs (disch := first | decide | exact of_eq_true (eq_true rfl) | omega | assumption) only [ ↓vcD, vcE, ↓vcG, vcF, evs, evP, evB, intsOf, fillC, Value.cells, pt, Value.oneCell', reduceIte, reduceCtorEq, Nat.reduceEqDiff, Nat.reduceAdd, Nat.reduceMul, Nat.reduceLT, Nat.reduceBEq, Nat.reduceLeDiff, Nat.reduceSub] -- r3
    refine ⟨_, _, followedE_f hV (sees0 rfl (of_decide_eq_true rfl)) (Rd.hq rfl rfl), ?_⟩
    try simp -implicitDefEqProofs (disch := first | decide | exact of_eq_true (eq_true rfl) | omega | assumption) only [ ↓vcD, vcE, ↓vcG, vcF, evs, evP, evB, intsOf, fillC, Value.cells, pt, Value.oneCell', reduceIte, reduceCtorEq, Nat.reduceEqDiff, Nat.reduceAdd, Nat.reduceMul, Nat.reduceLT, Nat.reduceBEq, Nat.reduceLeDiff, Nat.reduceSub]
    refine ITri.seq ?_
    refine ITri.seq ?_
    refine ITri.reg pok ?_; simp -implicitDefEqProofs (disch := first | decide | exact of_eq_true (eq_true rfl) | omega | assumption) only [ ↓vcD, vcE, ↓vcG, vcF, evs, evP, evB, intsOf, fillC, Value.cells, pt, Value.oneCell', reduceIte, reduceCtorEq, Nat.reduceEqDiff, Nat.reduceAdd, Nat.reduceMul, Nat.reduceLT, Nat.reduceBEq, Nat.reduceLeDiff, Nat.reduceSub] -- r4
    refine ITri.cond (v := true) rfl (fun _ => ?_) (fun h => by cases h)
    refine ITri.seq ?_
    refine ITri.reg pok ?_; simp -implicitDefEqProofs (disch := first | decide | exact of_eq_true (eq_true rfl) | omega | assumption) only [ ↓vcD, vcE, ↓vcG, vcF, evs, evP, evB, intsOf, fillC, Value.cells, pt, Value.oneCell', reduceIte, reduceCtorEq, Nat.reduceEqDiff, Nat.reduceAdd, Nat.reduceMul, Nat.reduceLT, Nat.reduceBEq, Nat.reduceLeDiff, Nat.reduceSub] -- r5
    refine ⟨_, _, check_f c len (sees0 rfl (of_decide_eq_true rfl)), ?_⟩
    simp -implicitDefEqProofs (disch := first | decide | exact of_eq_true (eq_true rfl) | omega | assumption) only [hV, decide_false, Bool.not_false, not_false_eq_true, decide_true,  ↓vcD, vcE, ↓vcG, vcF, evs, evP, evB, intsOf, fillC, Value.cells, pt, Value.oneCell', reduceIte, reduceCtorEq, Nat.reduceEqDiff, Nat.reduceAdd, Nat.reduceMul, Nat.reduceLT, Nat.reduceBEq, Nat.reduceLeDiff, Nat.reduceSub]
    refine ⟨_, _, sliced_f, ?_⟩
    try simp -implicitDefEqProofs (disch := first | decide | exact of_eq_true (eq_true rfl) | omega | assumption) only [ ↓vcD, vcE, ↓vcG, vcF, evs, evP, evB, intsOf, fillC, Value.cells, pt, Value.oneCell', reduceIte, reduceCtorEq, Nat.reduceEqDiff, Nat.reduceAdd, Nat.reduceMul, Nat.reduceLT, Nat.reduceBEq, Nat.reduceLeDiff, Nat.reduceSub]
    refine ITri.ret ?_; exact EndR.plain (by simp) (by rfl) (by rfl) (by rfl)
  have V := ckE_ok hV
  obtain ⟨m, hn⟩ : ∃ m, usF c len = m := ⟨_, rfl⟩
  have C := true_ok V ht
  have PV0 := parts_ok V C
  have hle := usF_le V
  rw [hn] at C PV0 hle
  have hK := KF_len c len (d0F c t) (wsF c t m) (ssF c t m) m
  have hS := SF_len c len (d0F c t) (wsF c t m) (ssF c t m) m (by omega)
  rw [hn] at hS
  have hFo : ∀ {h : AH} {s : Value}, h.sees 0 = true → Rd h s nt (rows eY t) → _ := fun {h s} h0 r => followed_f (c := c) (len := len) (t := t) (nt := nt) (n := m) hnt ht V hV hn (h := h) (s := s) h0 r
  generalize hSS : SF c len (d0F c t) (wsF c t m) (ssF c t m) m = S at *
  generalize hKK : KF c len (d0F c t) (wsF c t m) (ssF c t m) m = K at *
  generalize min c.st len = top at *
  generalize restF c len (d0F c t) (wsF c t m) (ssF c t m) m = re at *
  obtain ⟨s, hs⟩ : ∃ s, S.length = s := ⟨_, rfl⟩
  rw [hs] at hFo
  have hlen := lens_len top re K S
  have hm40 : m ≤ 40 := by omega
  have hs1 : s = m - 1 := by omega
  refine ITri.reg pok ?_; simp -implicitDefEqProofs (disch := first | decide | exact of_eq_true (eq_true rfl) | omega | assumption) only [ ↓vcD, vcE, ↓vcG, vcF, evs, evP, evB, intsOf, fillC, Value.cells, pt, Value.oneCell', reduceIte, reduceCtorEq, Nat.reduceEqDiff, Nat.reduceAdd, Nat.reduceMul, Nat.reduceLT, Nat.reduceBEq, Nat.reduceLeDiff, Nat.reduceSub] -- r3
  refine ⟨_, _, hFo (sees0 rfl (of_decide_eq_true rfl)) (Rd.hq rfl rfl), ?_⟩
  simp -implicitDefEqProofs (disch := first | decide | exact of_eq_true (eq_true rfl) | omega | assumption) only [news_c, news_n,  ↓vcD, vcE, ↓vcG, vcF, evs, evP, evB, intsOf, fillC, Value.cells, pt, Value.oneCell', reduceIte, reduceCtorEq, Nat.reduceEqDiff, Nat.reduceAdd, Nat.reduceMul, Nat.reduceLT, Nat.reduceBEq, Nat.reduceLeDiff, Nat.reduceSub]
  refine ITri.seq ?_
  refine ITri.seq ?_
  refine ITri.reg pok ?_; simp -implicitDefEqProofs (disch := first | decide | exact of_eq_true (eq_true rfl) | omega | assumption) only [ ↓vcD, vcE, ↓vcG, vcF, evs, evP, evB, intsOf, fillC, Value.cells, pt, Value.oneCell', reduceIte, reduceCtorEq, Nat.reduceEqDiff, Nat.reduceAdd, Nat.reduceMul, Nat.reduceLT, Nat.reduceBEq, Nat.reduceLeDiff, Nat.reduceSub] -- r4
  refine ITri.cond (v := false) rfl (fun h => by cases h) (fun _ => ?_); refine ITri.skip ?_; simp only [SeqQ_normal, BlkQ_normal]
  refine ITri.seq ?_
  refine ITri.reg pok ?_; simp -implicitDefEqProofs (disch := first | decide | exact of_eq_true (eq_true rfl) | omega | assumption) only [ ↓vcD, vcE, ↓vcG, vcF, evs, evP, evB, intsOf, fillC, Value.cells, pt, Value.oneCell', reduceIte, reduceCtorEq, Nat.reduceEqDiff, Nat.reduceAdd, Nat.reduceMul, Nat.reduceLT, Nat.reduceBEq, Nat.reduceLeDiff, Nat.reduceSub] -- r6
  refine ITri.seq ?_
  refine ITri.seq ?_
  refine ITri.reg pok ?_; simp -implicitDefEqProofs (disch := first | decide | exact of_eq_true (eq_true rfl) | omega | assumption) only [ ↓vcD, vcE, ↓vcG, vcF, evs, evP, evB, intsOf, fillC, Value.cells, pt, Value.oneCell', reduceIte, reduceCtorEq, Nat.reduceEqDiff, Nat.reduceAdd, Nat.reduceMul, Nat.reduceLT, Nat.reduceBEq, Nat.reduceLeDiff, Nat.reduceSub] -- r7
  refine ITri.block ?_ -- 0
  have z0 : rows eI (lnF top K S 0) = [Value.int .i64 top] := rfl
  have z1 : (lnF top K S 0).length = 1 := rfl
  refine ITri.loop (fun k : Nat => [(2, .int .i64 n), (7, pt 2), (9, sO 5 (lnF top K S k).length), (10, .int .i64 k)]) (fun _ => []) (fun k => Hp 2 [none, some (.cells ⟨rows eY t, 0, false⟩), some (.cells ⟨[sO 3 s, sO 4 m, .int .i64 top, .int .i64 re], 1, false⟩), rowO S, rowO K, rowO (lnF top K S k)]) (fun k => k ≤ m) (fun k => m - k) 0 (by omega) (Wk.gc [0, 1, 5, 3, 4, 6] [(5, .room 1)] (of_decide_eq_true rfl) (of_decide_eq_true rfl) rfl rfl (of_decide_eq_true rfl) rfl rfl (by repeat (first | exact xiOK_nil | refine xiOK_cons (by first | trivial | exact roomOK _ (by decide)) ?_)) rfl (by simp -implicitDefEqProofs (disch := first | decide | exact of_eq_true (eq_true rfl) | omega | assumption) only [z0, z1, Nat.le_refl, objOK, sgL, xiL, objAt, nilO, OM, mvL, mv, mvS, okS, okP, mvL_rows, okML, okM, okML_rows, List.getElem?_cons_zero, Option.getD_some, implies_true, imp_self, ne_eq, and_self, true_or, or_true, Nat.zero_mul, Nat.sub_self, openB_self, ↓vcD, vcE, ↓vcG, vcF, evs, evP, evB, intsOf, fillC, Value.cells, pt, Value.oneCell', reduceIte, reduceCtorEq, Nat.reduceEqDiff, Nat.reduceAdd, Nat.reduceMul, Nat.reduceLT, Nat.reduceBEq, Nat.reduceLeDiff, Nat.reduceSub]) (by simp -implicitDefEqProofs (disch := first | decide | exact of_eq_true (eq_true rfl) | omega | assumption) only [z0, z1, Nat.le_refl, valOK, sgL, xiL, mv, mvA, mvL, mvS, okS, okP, okM, okMA, okML, Option.getD_some, implies_true, and_self, true_or, or_true, Int.natCast_add, Int.cast_ofNat_Int, Nat.zero_mul, Nat.sub_self, openB_self, ↓vcD, vcE, ↓vcG, vcF, evs, evP, evB, intsOf, fillC, Value.cells, pt, Value.oneCell', reduceIte, reduceCtorEq, Nat.reduceEqDiff, Nat.reduceAdd, Nat.reduceMul, Nat.reduceLT, Nat.reduceBEq, Nat.reduceLeDiff, Nat.reduceSub]) (fun _ h => by cases h) ⟨rfl, fun _ h => by cases h⟩) fun k hk => ?_
  refine ITri.seq ?_
  refine ITri.seq ?_
  refine ITri.reg pok ?_; simp -implicitDefEqProofs (disch := first | decide | exact of_eq_true (eq_true rfl) | omega | assumption) only [ ↓vcD, vcE, ↓vcG, vcF, evs, evP, evB, intsOf, fillC, Value.cells, pt, Value.oneCell', reduceIte, reduceCtorEq, Nat.reduceEqDiff, Nat.reduceAdd, Nat.reduceMul, Nat.reduceLT, Nat.reduceBEq, Nat.reduceLeDiff, Nat.reduceSub] -- r8
  refine ITri.condD (by rfl) (fun h4 => ?_) (fun h4 => ?_) -- %49
  · refine ITri.skip ?_; simp only [SeqQ_normal, BlkQ_normal]
    have hkK : k < K.length := by omega
    have gK := getI hkK
    have l1 : (rows eI (lnF top K S k)).length = (lnF top K S k).length * 1 := by rw [rows_len (f := eI)]
    have l0 : (lnF top K S k).length ≤ 200 := by unfold lnF; rw [List.length_cons, ivF_len]; omega
    refine ITri.seq ?_
    refine ITri.block ?_ -- 1
    refine ITri.seq ?_
    refine ITri.reg pok ?_; simp -implicitDefEqProofs (disch := first | decide | exact of_eq_true (eq_true rfl) | omega | assumption) only [gK, l1,  ↓vcD, vcE, ↓vcG, vcF, evs, evP, evB, intsOf, fillC, Value.cells, pt, Value.oneCell', reduceIte, reduceCtorEq, Nat.reduceEqDiff, Nat.reduceAdd, Nat.reduceMul, Nat.reduceLT, Nat.reduceBEq, Nat.reduceLeDiff, Nat.reduceSub] -- r10
    by_cases h5 : k < s
    · have gS := getI (xs := S) (i := k) (by omega)
      have e1 := iv_row (K := K) (S := S) (t := top) (i := k) (by omega)
      have e2 : (lnF top K S k).length + 1 + 1 = (lnF top K S (k + 1)).length := by unfold lnF; rw [List.length_cons, List.length_cons, ivF_len, ivF_len]; omega
      refine ITri.seq ?_
      refine ITri.reg pok ?_; simp -implicitDefEqProofs (disch := first | decide | exact of_eq_true (eq_true rfl) | omega | assumption) only [(show (k : Int) < s by omega), decide_true,  ↓vcD, vcE, ↓vcG, vcF, evs, evP, evB, intsOf, fillC, Value.cells, pt, Value.oneCell', reduceIte, reduceCtorEq, Nat.reduceEqDiff, Nat.reduceAdd, Nat.reduceMul, Nat.reduceLT, Nat.reduceBEq, Nat.reduceLeDiff, Nat.reduceSub] -- r11
      refine ITri.cond (v := true) rfl (fun _ => ?_) (fun h => by cases h)
      have l2 : (rows eI (lnF top K S k) ++ [Value.int .i64 (nth K k)]).length = ((lnF top K S k).length + 1) * 1 := by rw [List.length_append, l1]; simp
      refine ITri.reg pok ?_; simp -implicitDefEqProofs (disch := first | decide | exact of_eq_true (eq_true rfl) | omega | assumption) only [gS, l2,  ↓vcD, vcE, ↓vcG, vcF, evs, evP, evB, intsOf, fillC, Value.cells, pt, Value.oneCell', reduceIte, reduceCtorEq, Nat.reduceEqDiff, Nat.reduceAdd, Nat.reduceMul, Nat.reduceLT, Nat.reduceBEq, Nat.reduceLeDiff, Nat.reduceSub] -- r12
      rw [e1, e2]
      refine ITri.reg pok ?_; simp -implicitDefEqProofs (disch := first | decide | exact of_eq_true (eq_true rfl) | omega | assumption) only [ ↓vcD, vcE, ↓vcG, vcF, evs, evP, evB, intsOf, fillC, Value.cells, pt, Value.oneCell', reduceIte, reduceCtorEq, Nat.reduceEqDiff, Nat.reduceAdd, Nat.reduceMul, Nat.reduceLT, Nat.reduceBEq, Nat.reduceLeDiff, Nat.reduceSub] -- r9
      exact LoopQ.next (k + 1) (by omega) (by omega) (Wk.gc [0, 1, 2, 3, 4, 9] [] (of_decide_eq_true rfl) (of_decide_eq_true rfl) rfl rfl (of_decide_eq_true rfl) rfl rfl (by repeat (first | exact xiOK_nil | refine xiOK_cons (by first | trivial | exact roomOK _ (by decide)) ?_)) rfl (by simp -implicitDefEqProofs (disch := first | decide | exact of_eq_true (eq_true rfl) | omega | assumption) only [ objOK, sgL, xiL, objAt, nilO, OM, mvL, mv, mvS, okS, okP, mvL_rows, okML, okM, okML_rows, List.getElem?_cons_zero, Option.getD_some, implies_true, imp_self, ne_eq, and_self, true_or, or_true, Nat.zero_mul, Nat.sub_self, openB_self, ↓vcD, vcE, ↓vcG, vcF, evs, evP, evB, intsOf, fillC, Value.cells, pt, Value.oneCell', reduceIte, reduceCtorEq, Nat.reduceEqDiff, Nat.reduceAdd, Nat.reduceMul, Nat.reduceLT, Nat.reduceBEq, Nat.reduceLeDiff, Nat.reduceSub]) (by simp -implicitDefEqProofs (disch := first | decide | exact of_eq_true (eq_true rfl) | omega | assumption) only [ valOK, sgL, xiL, mv, mvA, mvL, mvS, okS, okP, okM, okMA, okML, Option.getD_some, implies_true, and_self, true_or, or_true, Int.natCast_add, Int.cast_ofNat_Int, Nat.zero_mul, Nat.sub_self, openB_self, ↓vcD, vcE, ↓vcG, vcF, evs, evP, evB, intsOf, fillC, Value.cells, pt, Value.oneCell', reduceIte, reduceCtorEq, Nat.reduceEqDiff, Nat.reduceAdd, Nat.reduceMul, Nat.reduceLT, Nat.reduceBEq, Nat.reduceLeDiff, Nat.reduceSub]) (fun _ h => by cases h) ⟨rfl, fun _ h => by cases h⟩)
    · have e1 := iv_row1 (K := K) (S := S) (t := top) (i := k) (by omega)
      have e2 : (lnF top K S k).length + 1 = (lnF top K S (k + 1)).length := by unfold lnF; rw [List.length_cons, List.length_cons, ivF_len, ivF_len]; omega
      refine ITri.seq ?_
      rw [e1, e2]
      refine ITri.reg pok ?_; simp -implicitDefEqProofs (disch := first | decide | exact of_eq_true (eq_true rfl) | omega | assumption) only [(show ¬ (k : Int) < s by omega), decide_false,  ↓vcD, vcE, ↓vcG, vcF, evs, evP, evB, intsOf, fillC, Value.cells, pt, Value.oneCell', reduceIte, reduceCtorEq, Nat.reduceEqDiff, Nat.reduceAdd, Nat.reduceMul, Nat.reduceLT, Nat.reduceBEq, Nat.reduceLeDiff, Nat.reduceSub] -- r11
      refine ITri.cond (v := false) rfl (fun h => by cases h) (fun _ => ?_); refine ITri.skip ?_; simp only [SeqQ_normal, BlkQ_normal]
      refine ITri.reg pok ?_; simp -implicitDefEqProofs (disch := first | decide | exact of_eq_true (eq_true rfl) | omega | assumption) only [ ↓vcD, vcE, ↓vcG, vcF, evs, evP, evB, intsOf, fillC, Value.cells, pt, Value.oneCell', reduceIte, reduceCtorEq, Nat.reduceEqDiff, Nat.reduceAdd, Nat.reduceMul, Nat.reduceLT, Nat.reduceBEq, Nat.reduceLeDiff, Nat.reduceSub] -- r9
      exact LoopQ.next (k + 1) (by omega) (by omega) (Wk.gc [0, 1, 2, 3, 4, 7] [] (of_decide_eq_true rfl) (of_decide_eq_true rfl) rfl rfl (of_decide_eq_true rfl) rfl rfl (by repeat (first | exact xiOK_nil | refine xiOK_cons (by first | trivial | exact roomOK _ (by decide)) ?_)) rfl (by simp -implicitDefEqProofs (disch := first | decide | exact of_eq_true (eq_true rfl) | omega | assumption) only [ objOK, sgL, xiL, objAt, nilO, OM, mvL, mv, mvS, okS, okP, mvL_rows, okML, okM, okML_rows, List.getElem?_cons_zero, Option.getD_some, implies_true, imp_self, ne_eq, and_self, true_or, or_true, Nat.zero_mul, Nat.sub_self, openB_self, ↓vcD, vcE, ↓vcG, vcF, evs, evP, evB, intsOf, fillC, Value.cells, pt, Value.oneCell', reduceIte, reduceCtorEq, Nat.reduceEqDiff, Nat.reduceAdd, Nat.reduceMul, Nat.reduceLT, Nat.reduceBEq, Nat.reduceLeDiff, Nat.reduceSub]) (by simp -implicitDefEqProofs (disch := first | decide | exact of_eq_true (eq_true rfl) | omega | assumption) only [ valOK, sgL, xiL, mv, mvA, mvL, mvS, okS, okP, okM, okMA, okML, Option.getD_some, implies_true, and_self, true_or, or_true, Int.natCast_add, Int.cast_ofNat_Int, Nat.zero_mul, Nat.sub_self, openB_self, ↓vcD, vcE, ↓vcG, vcF, evs, evP, evB, intsOf, fillC, Value.cells, pt, Value.oneCell', reduceIte, reduceCtorEq, Nat.reduceEqDiff, Nat.reduceAdd, Nat.reduceMul, Nat.reduceLT, Nat.reduceBEq, Nat.reduceLeDiff, Nat.reduceSub]) (fun _ h => by cases h) ⟨rfl, fun _ h => by cases h⟩)
  refine ITri.exit ?_; try simp -implicitDefEqProofs (disch := first | decide | exact of_eq_true (eq_true rfl) | omega | assumption) only [ ↓vcD, vcE, ↓vcG, vcF, evs, evP, evB, intsOf, fillC, Value.cells, pt, Value.oneCell', reduceIte, reduceCtorEq, Nat.reduceEqDiff, Nat.reduceAdd, Nat.reduceMul, Nat.reduceLT, Nat.reduceBEq, Nat.reduceLeDiff, Nat.reduceSub]
  obtain rfl : m = k := by omega
  have r1 : rows eI (lnF top K S m) ++ [Value.int .i64 re] = rows eI (lensF top re K S) := by
    unfold lensF
    rw [rows_append, hK]
    rfl
  have r2 : (lnF top K S m).length + 1 = (lensF top re K S).length := by
    unfold lensF
    rw [List.length_append, hK]
    rfl
  have l1 : (rows eI (lnF top K S m)).length = (lnF top K S m).length * 1 := by rw [rows_len (f := eI)]
  refine ITri.seq ?_
  refine ITri.reg pok ?_; simp -implicitDefEqProofs (disch := first | decide | exact of_eq_true (eq_true rfl) | omega | assumption) only [l1,  ↓vcD, vcE, ↓vcG, vcF, evs, evP, evB, intsOf, fillC, Value.cells, pt, Value.oneCell', reduceIte, reduceCtorEq, Nat.reduceEqDiff, Nat.reduceAdd, Nat.reduceMul, Nat.reduceLT, Nat.reduceBEq, Nat.reduceLeDiff, Nat.reduceSub] -- r13
  rw [r1, r2]
  refine ITri.seq ?_
  generalize hN : (lensF top re K S).length = N at *
  have tk : takeC (rows eI (lensF top re K S)) 0 N = some (rows eI (lensF top re K S)) := by
    have e : (rows eI (lensF top re K S)).length = N := by rw [rows_len (f := eI), hN]; simp
    exact takeC_0 _ _ e
  by_cases hnb : inB n 0 1000000000000000 = true
  rotate_left
  · have hnb' : inB n 0 1000000000000000 = false := by simpa using hnb
    refine ITri.reg pok ?_; simp -implicitDefEqProofs (disch := first | decide | exact of_eq_true (eq_true rfl) | omega | assumption) only [ ↓vcD, vcE, ↓vcG, vcF, evs, evP, evB, intsOf, fillC, Value.cells, pt, Value.oneCell', reduceIte, reduceCtorEq, Nat.reduceEqDiff, Nat.reduceAdd, Nat.reduceMul, Nat.reduceLT, Nat.reduceBEq, Nat.reduceLeDiff, Nat.reduceSub] -- r14
    refine ⟨_, _, divideE_f hnb' (sees0 rfl (of_decide_eq_true rfl)) (get_hq rfl rfl) (get_hq rfl rfl), ?_⟩
    try simp -implicitDefEqProofs (disch := first | decide | exact of_eq_true (eq_true rfl) | omega | assumption) only [ ↓vcD, vcE, ↓vcG, vcF, evs, evP, evB, intsOf, fillC, Value.cells, pt, Value.oneCell', reduceIte, reduceCtorEq, Nat.reduceEqDiff, Nat.reduceAdd, Nat.reduceMul, Nat.reduceLT, Nat.reduceBEq, Nat.reduceLeDiff, Nat.reduceSub]
    refine ITri.seq ?_
    refine ITri.reg pok ?_; simp -implicitDefEqProofs (disch := first | decide | exact of_eq_true (eq_true rfl) | omega | assumption) only [ ↓vcD, vcE, ↓vcG, vcF, evs, evP, evB, intsOf, fillC, Value.cells, pt, Value.oneCell', reduceIte, reduceCtorEq, Nat.reduceEqDiff, Nat.reduceAdd, Nat.reduceMul, Nat.reduceLT, Nat.reduceBEq, Nat.reduceLeDiff, Nat.reduceSub] -- r15
    rw [tk]
    simp only []
    refine ⟨_, _, portionsE_f hN (by omega) hnb' (sees0 rfl (of_decide_eq_true rfl)) (Rd.hq rfl rfl), ?_⟩
    try simp -implicitDefEqProofs (disch := first | decide | exact of_eq_true (eq_true rfl) | omega | assumption) only [ ↓vcD, vcE, ↓vcG, vcF, evs, evP, evB, intsOf, fillC, Value.cells, pt, Value.oneCell', reduceIte, reduceCtorEq, Nat.reduceEqDiff, Nat.reduceAdd, Nat.reduceMul, Nat.reduceLT, Nat.reduceBEq, Nat.reduceLeDiff, Nat.reduceSub]
    refine ITri.seq ?_
    refine ITri.seq ?_
    refine ITri.reg pok ?_; simp -implicitDefEqProofs (disch := first | decide | exact of_eq_true (eq_true rfl) | omega | assumption) only [ ↓vcD, vcE, ↓vcG, vcF, evs, evP, evB, intsOf, fillC, Value.cells, pt, Value.oneCell', reduceIte, reduceCtorEq, Nat.reduceEqDiff, Nat.reduceAdd, Nat.reduceMul, Nat.reduceLT, Nat.reduceBEq, Nat.reduceLeDiff, Nat.reduceSub] -- r16
    refine ITri.cond (v := true) rfl (fun _ => ?_) (fun h => by cases h)
    refine ITri.seq ?_
    have z00 : ((0 : Nat) : Int) + ((0 : Nat) : Int) = 0 := rfl
    refine ITri.reg pok ?_; simp -implicitDefEqProofs (disch := first | decide | exact of_eq_true (eq_true rfl) | omega | assumption) only [z00, decide_true,  ↓vcD, vcE, ↓vcG, vcF, evs, evP, evB, intsOf, fillC, Value.cells, pt, Value.oneCell', reduceIte, reduceCtorEq, Nat.reduceEqDiff, Nat.reduceAdd, Nat.reduceMul, Nat.reduceLT, Nat.reduceBEq, Nat.reduceLeDiff, Nat.reduceSub] -- r17
    refine ⟨_, _, sliced_f, ?_⟩
    try simp -implicitDefEqProofs (disch := first | decide | exact of_eq_true (eq_true rfl) | omega | assumption) only [ ↓vcD, vcE, ↓vcG, vcF, evs, evP, evB, intsOf, fillC, Value.cells, pt, Value.oneCell', reduceIte, reduceCtorEq, Nat.reduceEqDiff, Nat.reduceAdd, Nat.reduceMul, Nat.reduceLT, Nat.reduceBEq, Nat.reduceLeDiff, Nat.reduceSub]
    refine ITri.ret ?_; exact EndR.plain (by simp) (by rfl) (by rfl) (by rfl)
  have vs := PV0.sum
  have vall := PV0.all
  rw [hN] at vs
  have hSn := shF_len (n := n) (l := lensF top re K S) N
  obtain ⟨a1, a2⟩ := pick_nth 0 (by omega) (xF n (lensF top re K S)) (N - 2)
  obtain ⟨b1, b2⟩ := pick_nth 1 (by omega) (xF n (lensF top re K S)) (N - 2)
  have hdv := fun {h : AH} h0 (ha : h.get 3 = some (.cells ⟨rows eI S, 1, true⟩)) (hb : h.get 4 = some (.cells ⟨rows eI K, 1, true⟩)) => divide_f (n := n) (K := K) (S := S) (t := top) (u := re) (k := m) (s := s) hK hs PV0 hnb (h := h) h0 ha hb
  unfold dvV dvO at hdv
  rw [hN] at hdv
  have hxF : ∀ j, xF n (lensF top re K S) j = nth (shF n (lensF top re K S) N) (j + 1) := fun j => by show nth (shF _ _ (lensF top re K S).length) _ = _; rw [hN]
  generalize hA : pickF 0 (xF n (lensF top re K S)) (N - 2) = A at *
  generalize hB : pickF 1 (xF n (lensF top re K S)) (N - 2) = B at *
  have hAm : A.length = m := by omega
  have hBs : B.length = s := by omega
  rw [hAm, hBs] at hdv
  generalize hW : shF n (lensF top re K S) N = W at *
  have hp := fun {h : AH} {s : Value} h0 r => portions_f (n := n) (ws := lensF top re K S) (m := N) hN (by omega) hnb vall vs (h := h) (s := s) h0 r
  rw [hW] at hp
  refine ITri.reg pok ?_; simp -implicitDefEqProofs (disch := first | decide | exact of_eq_true (eq_true rfl) | omega | assumption) only [ ↓vcD, vcE, ↓vcG, vcF, evs, evP, evB, intsOf, fillC, Value.cells, pt, Value.oneCell', reduceIte, reduceCtorEq, Nat.reduceEqDiff, Nat.reduceAdd, Nat.reduceMul, Nat.reduceLT, Nat.reduceBEq, Nat.reduceLeDiff, Nat.reduceSub] -- r14
  refine ⟨_, _, hdv (sees0 rfl (of_decide_eq_true rfl)) (get_hq rfl rfl) (get_hq rfl rfl), ?_⟩
  simp -implicitDefEqProofs (disch := first | decide | exact of_eq_true (eq_true rfl) | omega | assumption) only [news_c, news_n,  ↓vcD, vcE, ↓vcG, vcF, evs, evP, evB, intsOf, fillC, Value.cells, pt, Value.oneCell', reduceIte, reduceCtorEq, Nat.reduceEqDiff, Nat.reduceAdd, Nat.reduceMul, Nat.reduceLT, Nat.reduceBEq, Nat.reduceLeDiff, Nat.reduceSub]
  refine ITri.seq ?_
  refine ITri.reg pok ?_; simp -implicitDefEqProofs (disch := first | decide | exact of_eq_true (eq_true rfl) | omega | assumption) only [ ↓vcD, vcE, ↓vcG, vcF, evs, evP, evB, intsOf, fillC, Value.cells, pt, Value.oneCell', reduceIte, reduceCtorEq, Nat.reduceEqDiff, Nat.reduceAdd, Nat.reduceMul, Nat.reduceLT, Nat.reduceBEq, Nat.reduceLeDiff, Nat.reduceSub] -- r15
  rw [tk]
  simp only []
  refine ⟨_, _, hp (sees0 rfl (of_decide_eq_true rfl)) (Rd.hq rfl rfl), ?_⟩
  try simp -implicitDefEqProofs (disch := first | decide | exact of_eq_true (eq_true rfl) | omega | assumption) only [ ↓vcD, vcE, ↓vcG, vcF, evs, evP, evB, intsOf, fillC, Value.cells, pt, Value.oneCell', reduceIte, reduceCtorEq, Nat.reduceEqDiff, Nat.reduceAdd, Nat.reduceMul, Nat.reduceLT, Nat.reduceBEq, Nat.reduceLeDiff, Nat.reduceSub]
  refine ITri.seq ?_
  refine ITri.seq ?_
  refine ITri.reg pok ?_; simp -implicitDefEqProofs (disch := first | decide | exact of_eq_true (eq_true rfl) | omega | assumption) only [ ↓vcD, vcE, ↓vcG, vcF, evs, evP, evB, intsOf, fillC, Value.cells, pt, Value.oneCell', reduceIte, reduceCtorEq, Nat.reduceEqDiff, Nat.reduceAdd, Nat.reduceMul, Nat.reduceLT, Nat.reduceBEq, Nat.reduceLeDiff, Nat.reduceSub] -- r16
  refine ITri.cond (v := false) rfl (fun h => by cases h) (fun _ => ?_); refine ITri.skip ?_; simp only [SeqQ_normal, BlkQ_normal]
  have g0 := getI (xs := W) (i := 0) (by omega)
  have gN := getI (xs := W) (i := N - 1) (by omega)
  have eN : ((N : Int) - 1).toNat = N - 1 := by omega
  refine ITri.seq ?_
  refine ITri.seq ?_
  refine ITri.reg pok ?_; simp -implicitDefEqProofs (disch := first | decide | exact of_eq_true (eq_true rfl) | omega | assumption) only [g0, gN, eN, decide_true, Bool.not_true, Int.toNat_zero,  ↓vcD, vcE, ↓vcG, vcF, evs, evP, evB, intsOf, fillC, Value.cells, pt, Value.oneCell', reduceIte, reduceCtorEq, Nat.reduceEqDiff, Nat.reduceAdd, Nat.reduceMul, Nat.reduceLT, Nat.reduceBEq, Nat.reduceLeDiff, Nat.reduceSub] -- r18
  refine ITri.cond (v := false) rfl (fun h => by cases h) (fun _ => ?_); refine ITri.skip ?_; simp only [SeqQ_normal, BlkQ_normal]
  refine ITri.seq ?_
  refine ITri.seq ?_
  refine ITri.reg pok ?_; simp -implicitDefEqProofs (disch := first | decide | exact of_eq_true (eq_true rfl) | omega | assumption) only [ ↓vcD, vcE, ↓vcG, vcF, evs, evP, evB, intsOf, fillC, Value.cells, pt, Value.oneCell', reduceIte, reduceCtorEq, Nat.reduceEqDiff, Nat.reduceAdd, Nat.reduceMul, Nat.reduceLT, Nat.reduceBEq, Nat.reduceLeDiff, Nat.reduceSub] -- r20
  refine ITri.block ?_ -- 2
  refine ITri.loop (fun k : Nat => [(12, sO 3 m), (13, sO 4 s), (16, sO 5 N), (18, .int .i64 k)]) (fun _ => []) (fun k => Hp 2 [none, some (.cells ⟨rows eY t, 0, false⟩), none, rowO A, rowO B, rowO W]) (fun k => k ≤ m) (fun k => m - k) 0 (by omega) (Wk.gc [0, 1, 5, 8, 9, 12] [] (of_decide_eq_true rfl) (of_decide_eq_true rfl) rfl rfl (of_decide_eq_true rfl) rfl rfl (by repeat (first | exact xiOK_nil | refine xiOK_cons (by first | trivial | exact roomOK _ (by decide)) ?_)) rfl (by simp -implicitDefEqProofs (disch := first | decide | exact of_eq_true (eq_true rfl) | omega | assumption) only [ objOK, sgL, xiL, objAt, nilO, OM, mvL, mv, mvS, okS, okP, mvL_rows, okML, okM, okML_rows, List.getElem?_cons_zero, Option.getD_some, implies_true, imp_self, ne_eq, and_self, true_or, or_true, Nat.zero_mul, Nat.sub_self, openB_self, ↓vcD, vcE, ↓vcG, vcF, evs, evP, evB, intsOf, fillC, Value.cells, pt, Value.oneCell', reduceIte, reduceCtorEq, Nat.reduceEqDiff, Nat.reduceAdd, Nat.reduceMul, Nat.reduceLT, Nat.reduceBEq, Nat.reduceLeDiff, Nat.reduceSub]) (by simp -implicitDefEqProofs (disch := first | decide | exact of_eq_true (eq_true rfl) | omega | assumption) only [ valOK, sgL, xiL, mv, mvA, mvL, mvS, okS, okP, okM, okMA, okML, Option.getD_some, implies_true, and_self, true_or, or_true, Int.natCast_add, Int.cast_ofNat_Int, Nat.zero_mul, Nat.sub_self, openB_self, ↓vcD, vcE, ↓vcG, vcF, evs, evP, evB, intsOf, fillC, Value.cells, pt, Value.oneCell', reduceIte, reduceCtorEq, Nat.reduceEqDiff, Nat.reduceAdd, Nat.reduceMul, Nat.reduceLT, Nat.reduceBEq, Nat.reduceLeDiff, Nat.reduceSub]) (fun _ h => by cases h) ⟨rfl, fun _ h => by cases h⟩) fun k hk => ?_
  refine ITri.seq ?_
  refine ITri.seq ?_
  refine ITri.reg pok ?_; simp -implicitDefEqProofs (disch := first | decide | exact of_eq_true (eq_true rfl) | omega | assumption) only [ ↓vcD, vcE, ↓vcG, vcF, evs, evP, evB, intsOf, fillC, Value.cells, pt, Value.oneCell', reduceIte, reduceCtorEq, Nat.reduceEqDiff, Nat.reduceAdd, Nat.reduceMul, Nat.reduceLT, Nat.reduceBEq, Nat.reduceLeDiff, Nat.reduceSub] -- r21
  refine ITri.condD (by rfl) (fun h4 => ?_) (fun h4 => ?_) -- %164
  · refine ITri.skip ?_; simp only [SeqQ_normal, BlkQ_normal]
    have hkm : k < m := by omega
    have gA := getI (xs := A) (i := k) (by omega)
    have gW1 := getI (xs := W) (i := 2 * k + 1) (by omega)
    have j1 : (1 + 2 * (k : Int)).toNat = 2 * k + 1 := by omega
    have j2 : (2 + 2 * (k : Int)).toNat = 2 * k + 2 := by omega
    have q1 : nth A k = nth W (2 * k + 1) := by rw [a2 k (by omega), hxF]
    refine ITri.seq ?_
    refine ITri.block ?_ -- 3
    refine ITri.seq ?_
    by_cases h5 : k < s
    · have gB := getI (xs := B) (i := k) (by omega)
      have gW2 := getI (xs := W) (i := 2 * k + 2) (by omega)
      have q2 : nth B k = nth W (2 * k + 2) := by rw [b2 k (by omega), hxF]
      have h5' : (k : Int) < s := by omega
      refine ITri.draw pok ?_; simp -implicitDefEqProofs (disch := first | decide | exact of_eq_true (eq_true rfl) | omega | assumption) only [gA, gW1, gB, gW2, j1, j2, q1, q2, h5', decide_true, Bool.not_true,  ↓vcD, vcE, ↓vcG, vcF, evs, evP, evB, intsOf, fillC, Value.cells, pt, Value.oneCell', reduceIte, reduceCtorEq, Nat.reduceEqDiff, Nat.reduceAdd, Nat.reduceMul, Nat.reduceLT, Nat.reduceBEq, Nat.reduceLeDiff, Nat.reduceSub] -- r23
      refine ITri.cond (v := false) rfl (fun h => by cases h) (fun _ => ?_); refine ITri.skip ?_; simp only [SeqQ_normal, BlkQ_normal]
      refine ITri.reg pok ?_; simp -implicitDefEqProofs (disch := first | decide | exact of_eq_true (eq_true rfl) | omega | assumption) only [ ↓vcD, vcE, ↓vcG, vcF, evs, evP, evB, intsOf, fillC, Value.cells, pt, Value.oneCell', reduceIte, reduceCtorEq, Nat.reduceEqDiff, Nat.reduceAdd, Nat.reduceMul, Nat.reduceLT, Nat.reduceBEq, Nat.reduceLeDiff, Nat.reduceSub] -- r22
      exact LoopQ.next (k + 1) (by omega) (by omega) (Wk.sub ⟨rfl, rfl, rfl, rfl, trivial⟩)
    · have h5' : ¬ (k : Int) < s := by omega
      refine ITri.draw pok ?_; simp -implicitDefEqProofs (disch := first | decide | exact of_eq_true (eq_true rfl) | omega | assumption) only [gA, gW1, j1, j2, q1, h5', decide_true, decide_false, Bool.not_true,  ↓vcD, vcE, ↓vcG, vcF, evs, evP, evB, intsOf, fillC, Value.cells, pt, Value.oneCell', reduceIte, reduceCtorEq, Nat.reduceEqDiff, Nat.reduceAdd, Nat.reduceMul, Nat.reduceLT, Nat.reduceBEq, Nat.reduceLeDiff, Nat.reduceSub] -- r23
      refine ITri.cond (v := false) rfl (fun h => by cases h) (fun _ => ?_); refine ITri.skip ?_; simp only [SeqQ_normal, BlkQ_normal]
      refine ITri.reg pok ?_; simp -implicitDefEqProofs (disch := first | decide | exact of_eq_true (eq_true rfl) | omega | assumption) only [ ↓vcD, vcE, ↓vcG, vcF, evs, evP, evB, intsOf, fillC, Value.cells, pt, Value.oneCell', reduceIte, reduceCtorEq, Nat.reduceEqDiff, Nat.reduceAdd, Nat.reduceMul, Nat.reduceLT, Nat.reduceBEq, Nat.reduceLeDiff, Nat.reduceSub] -- r22
      exact LoopQ.next (k + 1) (by omega) (by omega) (Wk.sub ⟨rfl, rfl, rfl, rfl, trivial⟩)
  refine ITri.exit ?_; try simp -implicitDefEqProofs (disch := first | decide | exact of_eq_true (eq_true rfl) | omega | assumption) only [ ↓vcD, vcE, ↓vcG, vcF, evs, evP, evB, intsOf, fillC, Value.cells, pt, Value.oneCell', reduceIte, reduceCtorEq, Nat.reduceEqDiff, Nat.reduceAdd, Nat.reduceMul, Nat.reduceLT, Nat.reduceBEq, Nat.reduceLeDiff, Nat.reduceSub]
  refine ITri.seq ?_
  refine ITri.reg pok ?_; simp -implicitDefEqProofs (disch := first | decide | exact of_eq_true (eq_true rfl) | omega | assumption) only [ ↓vcD, vcE, ↓vcG, vcF, evs, evP, evB, intsOf, fillC, Value.cells, pt, Value.oneCell', reduceIte, reduceCtorEq, Nat.reduceEqDiff, Nat.reduceAdd, Nat.reduceMul, Nat.reduceLT, Nat.reduceBEq, Nat.reduceLeDiff, Nat.reduceSub] -- r25
  refine ⟨_, _, sliced_f, ?_⟩
  try simp -implicitDefEqProofs (disch := first | decide | exact of_eq_true (eq_true rfl) | omega | assumption) only [ ↓vcD, vcE, ↓vcG, vcF, evs, evP, evB, intsOf, fillC, Value.cells, pt, Value.oneCell', reduceIte, reduceCtorEq, Nat.reduceEqDiff, Nat.reduceAdd, Nat.reduceMul, Nat.reduceLT, Nat.reduceBEq, Nat.reduceLeDiff, Nat.reduceSub]
  refine ITri.ret ?_; exact EndR.plain (by simp) (by rfl) (by rfl) (by rfl)
end Go.Proofs.Ytlhhkmkclmedgaa
