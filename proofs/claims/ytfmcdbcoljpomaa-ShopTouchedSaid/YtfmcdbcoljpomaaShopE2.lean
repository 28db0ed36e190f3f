/-
  Chapter 11, by names: the law ShopTouched.
-/
import Derived.Test.YtfmcdbcoljpomaaShopE1
set_option linter.unusedSimpArgs false
set_option linter.unusedVariables false
namespace Go.Proofs.Ytfmcdbcoljpomaa
open Go.RowKit Go.Vm
set_option maxRecDepth 100000
/- boule/boulelaw11.ShopTouched · slots 331 · names 0:l 1:x 2:change 3:l 4:x 5:change 7:a 8:b 9:e 10:touched 11:i 12:i 13:i 14:more 15:since 16:i 17:i 18:c 19:d 20:f 21:g 22:h · results [6] -/
def ir8_r0 : IC := .reg [⟨some 4, none, false, .box (.t 1)⟩,
  ⟨some 6, none, false, .mv (.k (.bool false))⟩] (some [0, 2, 4])
def ir8_r1 : IC := .reg [⟨some 23, none, false, .mv (.t 0)⟩,
  ⟨some 24, none, false, .len (.t 23)⟩,
  ⟨some 25, none, false, .cmp .gtr (.t 24) (.k (.int .i64 500))⟩] (some [0, 2, 4, 25])
def ir8_r2 : IC := .reg [⟨some 26, none, false, .call (.f 12) []⟩,
  ⟨some 6, none, false, .mv (.t 26)⟩] (some [6])
def ir8_1 : IC := .seq ir8_r2 .ret
def ir8_2 : IC := .cond (.t 25) ir8_1 .skip
def ir8_3 : IC := .seq ir8_r1 ir8_2
def ir8_r3 : IC := .draw [(⟨some 28, none, false, .bsl 3 0 [] []⟩, false, 0, 1),
  (⟨some 29, none, false, .mv (.t 0)⟩, false, 0, 0),
  (⟨some 30, none, false, .app 3 24 (.t 28) (.t 29)⟩, false, 3, 1),
  (⟨some 31, none, false, .fad 0 (.t 4)⟩, false, 0, 0),
  (⟨some 32, none, false, .ldc (.t 31)⟩, false, 8, 4),
  (⟨some 33, none, false, .fad 1 (.t 4)⟩, false, 0, 0),
  (⟨some 34, none, false, .ldc (.t 33)⟩, false, 32, 12),
  (⟨some 35, none, false, .fad 2 (.t 4)⟩, false, 0, 0),
  (⟨some 36, none, false, .ldc (.t 35)⟩, false, 128, 44),
  (⟨some 37, none, false, .fad 3 (.t 4)⟩, false, 0, 0),
  (⟨some 38, none, false, .ldc (.t 37)⟩, false, 512, 172),
  (⟨some 39, none, false, .call (.f 20) [(.t 30), (.t 32), (.t 34), (.t 36), (.t 38)]⟩, true, 2047, 1),
  (⟨some 27, none, false, .mv (.t 39)⟩, false, 4095, 0),
  (⟨some 40, none, false, .ext (.t 27) 0⟩, false, 8191, 0),
  (⟨some 41, none, false, .ext (.t 27) 1⟩, false, 8191, 0),
  (⟨some 42, none, false, .ext (.t 27) 2⟩, false, 8191, 0),
  (⟨some 7, none, false, .mv (.t 40)⟩, false, 16383, 0),
  (⟨some 8, none, false, .mv (.t 41)⟩, false, 98303, 0),
  (⟨some 9, none, false, .mv (.t 42)⟩, false, 262143, 0)] (some [0, 2, 4, 7, 8, 9])
def ir8_r4 : IC := .reg [⟨some 43, none, false, .mv (.t 9)⟩,
  ⟨some 44, none, false, .cmp .neq (.t 43) (.k (.int .i64 0))⟩] (some [0, 2, 4, 7, 8, 44])
def ir8_r5 : IC := .reg [⟨some 45, none, false, .mv (.t 7)⟩,
  ⟨some 46, none, false, .len (.t 45)⟩,
  ⟨some 47, none, false, .mv (.t 8)⟩,
  ⟨some 48, none, false, .len (.t 47)⟩,
  ⟨some 49, none, false, .ar .add (.t 46) (.t 48)⟩,
  ⟨some 50, none, false, .cmp .eql (.t 49) (.k (.int .i64 0))⟩,
  ⟨some 51, none, false, .mv (.t 50)⟩,
  ⟨some 52, some (51, true), false, .call (.f 12) []⟩,
  ⟨some 53, none, false, .pick (.t 51) (.t 52) (.k (.bool false))⟩,
  ⟨some 6, none, false, .mv (.t 53)⟩] (some [6])
def ir8_4 : IC := .seq ir8_r5 .ret
def ir8_5 : IC := .cond (.t 44) ir8_4 .skip
def ir8_6 : IC := .seq ir8_r4 ir8_5
def ir8_r6 : IC := .reg [⟨some 54, none, false, .mv (.t 7)⟩,
  ⟨some 55, none, false, .len (.t 54)⟩,
  ⟨some 56, none, false, .fad 0 (.t 4)⟩,
  ⟨some 57, none, false, .ldc (.t 56)⟩,
  ⟨some 58, none, false, .cmp .neq (.t 55) (.t 57)⟩,
  ⟨some 59, none, false, .mv (.t 58)⟩,
  ⟨some 60, some (59, false), false, .mv (.t 8)⟩,
  ⟨some 61, some (59, false), false, .len (.t 60)⟩,
  ⟨some 62, some (59, false), false, .fad 1 (.t 4)⟩,
  ⟨some 63, some (59, false), false, .ldc (.t 62)⟩,
  ⟨some 64, some (59, false), false, .cmp .neq (.t 61) (.t 63)⟩,
  ⟨some 65, none, false, .pick (.t 59) (.k (.bool true)) (.t 64)⟩,
  ⟨some 66, none, false, .mv (.t 65)⟩,
  ⟨some 67, some (66, false), false, .fad 2 (.t 4)⟩,
  ⟨some 68, some (66, false), false, .ldc (.t 67)⟩,
  ⟨some 69, some (66, false), false, .cmp .lss (.t 68) (.k (.int .i64 0))⟩,
  ⟨some 70, none, false, .pick (.t 66) (.k (.bool true)) (.t 69)⟩,
  ⟨some 71, none, false, .mv (.t 70)⟩,
  ⟨some 72, some (71, false), false, .fad 2 (.t 4)⟩,
  ⟨some 73, some (71, false), false, .ldc (.t 72)⟩,
  ⟨some 74, some (71, false), false, .mv (.t 8)⟩,
  ⟨some 75, some (71, false), false, .len (.t 74)⟩,
  ⟨some 76, some (71, false), false, .cmp .geq (.t 73) (.t 75)⟩,
  ⟨some 77, none, false, .pick (.t 71) (.k (.bool true)) (.t 76)⟩] (some [0, 2, 4, 7, 8, 77])
def ir8_r7 : IC := .reg [⟨some 6, none, false, .mv (.k (.bool false))⟩] (some [6])
def ir8_7 : IC := .seq ir8_r7 .ret
def ir8_8 : IC := .cond (.t 77) ir8_7 .skip
def ir8_9 : IC := .seq ir8_r6 ir8_8
def ir8_r8 : IC := .reg [⟨some 10, none, false, .mv (.k (.bool false))⟩] (some [0, 2, 4, 7, 8, 10])
def ir8_r9 : IC := .reg [⟨some 11, none, false, .mv (.k (.int .i64 0))⟩] (some [0, 2, 4, 7, 8, 10, 11])
def ir8_r10 : IC := .reg [⟨some 78, none, false, .mv (.t 11)⟩,
  ⟨some 79, none, false, .mv (.t 0)⟩,
  ⟨some 80, none, false, .len (.t 79)⟩,
  ⟨some 81, none, false, .cmp .lss (.t 78) (.t 80)⟩] (some [0, 2, 4, 7, 8, 10, 11, 81])
def ir8_10 : IC := .cond (.t 81) .skip (.exit 0)
def ir8_11 : IC := .seq ir8_r10 ir8_10
def ir8_r12 : IC := .draw [(⟨some 84, none, false, .mv (.t 10)⟩, false, 0, 0),
  (⟨some 85, none, false, .mv (.t 84)⟩, false, 1, 0),
  (⟨some 86, some (85, false), false, .mv (.t 0)⟩, false, 3, 0),
  (⟨some 87, some (85, false), false, .mv (.t 11)⟩, false, 3, 0),
  (⟨some 88, some (85, false), false, .iad 3 (.t 86) (.t 87)⟩, false, 15, 0),
  (⟨some 89, some (85, false), false, .fad 2 (.t 88)⟩, false, 31, 0),
  (⟨some 90, some (85, false), false, .ldc (.t 89)⟩, false, 63, 1),
  (⟨some 91, some (85, false), false, .fad 2 (.t 4)⟩, false, 3, 0),
  (⟨some 92, some (85, false), false, .ldc (.t 91)⟩, false, 131, 64),
  (⟨some 93, some (85, false), false, .cmp .eql (.t 90) (.t 92)⟩, false, 511, 0),
  (⟨some 94, some (85, false), false, .mv (.t 93)⟩, false, 1023, 0),
  (⟨some 95, some (94, true), false, .mv (.t 0)⟩, false, 2047, 0),
  (⟨some 96, some (94, true), false, .mv (.t 11)⟩, false, 2047, 0),
  (⟨some 97, some (94, true), false, .iad 3 (.t 95) (.t 96)⟩, false, 8191, 0),
  (⟨some 98, some (94, true), false, .fad 1 (.t 97)⟩, false, 16383, 0),
  (⟨some 99, some (94, true), false, .ldc (.t 98)⟩, true, 32767, 1),
  (⟨some 100, some (94, true), false, .cmp .geq (.t 99) (.k (.int .i64 0))⟩, false, 65535, 0),
  (⟨some 101, some (85, false), false, .pick (.t 94) (.t 100) (.k (.bool false))⟩, false, 131071, 0),
  (⟨some 102, some (85, false), false, .mv (.t 101)⟩, false, 262143, 0),
  (⟨some 103, some (102, true), false, .mv (.t 0)⟩, false, 524287, 0),
  (⟨some 104, some (102, true), false, .mv (.t 11)⟩, false, 524287, 0),
  (⟨some 105, some (102, true), false, .iad 3 (.t 103) (.t 104)⟩, false, 2097151, 0),
  (⟨some 106, some (102, true), false, .fad 0 (.t 105)⟩, false, 4194303, 0),
  (⟨some 107, some (102, true), false, .ldc (.t 106)⟩, false, 8388607, 1),
  (⟨some 108, some (102, true), false, .fad 3 (.t 4)⟩, false, 524287, 0),
  (⟨some 109, some (102, true), false, .ldc (.t 108)⟩, false, 17301503, 8388608),
  (⟨some 110, some (102, true), false, .cmp .geq (.t 107) (.t 109)⟩, false, 67108863, 0),
  (⟨some 111, some (85, false), false, .pick (.t 102) (.t 110) (.k (.bool false))⟩, false, 134217727, 0),
  (⟨some 112, none, false, .pick (.t 85) (.k (.bool true)) (.t 111)⟩, false, 268435455, 0),
  (⟨some 10, none, false, .mv (.t 112)⟩, false, 536870911, 0)] (some [0, 2, 4, 7, 8, 10, 11])
def ir8_12 : IC := .block 1 ir8_r12
def ir8_r11 : IC := .reg [⟨some 82, none, false, .mv (.t 11)⟩,
  ⟨some 83, none, false, .ar .add (.t 82) (.k (.int .i64 1))⟩,
  ⟨some 11, none, false, .mv (.t 83)⟩] (some [0, 2, 4, 7, 8, 10, 11])
def ir8_13 : IC := .seq ir8_12 ir8_r11
def ir8_14 : IC := .seq ir8_11 ir8_13
def ir8_15 : IC := .loop ir8_14
def ir8_16 : IC := .block 0 ir8_15
def ir8_17 : IC := .seq ir8_r9 ir8_16
def ir8_r13 : IC := .reg [⟨some 12, none, false, .mv (.k (.int .i64 0))⟩] (some [0, 2, 4, 7, 8, 10, 12])
def ir8_r14 : IC := .reg [⟨some 113, none, false, .mv (.t 12)⟩,
  ⟨some 114, none, false, .mv (.t 7)⟩,
  ⟨some 115, none, false, .len (.t 114)⟩,
  ⟨some 116, none, false, .cmp .lss (.t 113) (.t 115)⟩] (some [0, 2, 4, 7, 8, 10, 12, 116])
def ir8_18 : IC := .cond (.t 116) .skip (.exit 2)
def ir8_19 : IC := .seq ir8_r14 ir8_18
def ir8_r16 : IC := .reg [⟨some 119, none, false, .mv (.t 7)⟩,
  ⟨some 120, none, false, .mv (.t 12)⟩,
  ⟨some 121, none, false, .iad 1 (.t 119) (.t 120)⟩,
  ⟨some 122, none, false, .ldc (.t 121)⟩,
  ⟨some 123, none, false, .cmp .geq (.t 122) (.k (.int .i64 0))⟩,
  ⟨some 124, none, false, .mv (.t 123)⟩,
  ⟨some 125, some (124, true), false, .mv (.t 10)⟩,
  ⟨some 126, some (124, true), false, .not (.t 125)⟩,
  ⟨some 127, some (124, true), false, .mv (.t 126)⟩,
  ⟨some 128, some (127, false), false, .mv (.t 0)⟩,
  ⟨some 129, some (127, false), false, .mv (.t 12)⟩,
  ⟨some 130, some (127, false), false, .mv (.t 7)⟩,
  ⟨some 131, some (127, false), false, .mv (.t 12)⟩,
  ⟨some 132, some (127, false), false, .iad 1 (.t 130) (.t 131)⟩,
  ⟨some 133, some (127, false), false, .ldc (.t 132)⟩,
  ⟨some 134, some (127, false), false, .call (.f 24) [(.t 128), (.t 129), (.k (.int .i64 (-1))), (.t 133)]⟩,
  ⟨some 135, some (127, false), false, .not (.t 134)⟩,
  ⟨some 136, some (124, true), false, .pick (.t 127) (.k (.bool true)) (.t 135)⟩,
  ⟨some 137, none, false, .pick (.t 124) (.t 136) (.k (.bool false))⟩] (some [0, 2, 4, 7, 8, 10, 12, 137])
def ir8_r17 : IC := .reg [⟨some 6, none, false, .mv (.k (.bool false))⟩] (some [6])
def ir8_20 : IC := .seq ir8_r17 .ret
def ir8_21 : IC := .cond (.t 137) ir8_20 .skip
def ir8_22 : IC := .seq ir8_r16 ir8_21
def ir8_23 : IC := .block 3 ir8_22
def ir8_r15 : IC := .reg [⟨some 117, none, false, .mv (.t 12)⟩,
  ⟨some 118, none, false, .ar .add (.t 117) (.k (.int .i64 1))⟩,
  ⟨some 12, none, false, .mv (.t 118)⟩] (some [0, 2, 4, 7, 8, 10, 12])
def ir8_24 : IC := .seq ir8_23 ir8_r15
def ir8_25 : IC := .seq ir8_19 ir8_24
def ir8_26 : IC := .loop ir8_25
def ir8_27 : IC := .block 2 ir8_26
def ir8_28 : IC := .seq ir8_r13 ir8_27
def ir8_r18 : IC := .reg [⟨some 13, none, false, .mv (.k (.int .i64 0))⟩] (some [0, 2, 4, 7, 8, 10, 13])
def ir8_r19 : IC := .reg [⟨some 138, none, false, .mv (.t 13)⟩,
  ⟨some 139, none, false, .mv (.t 8)⟩,
  ⟨some 140, none, false, .len (.t 139)⟩,
  ⟨some 141, none, false, .cmp .lss (.t 138) (.t 140)⟩] (some [0, 2, 4, 7, 8, 10, 13, 141])
def ir8_29 : IC := .cond (.t 141) .skip (.exit 4)
def ir8_30 : IC := .seq ir8_r19 ir8_29
def ir8_r21 : IC := .draw [(⟨some 144, none, false, .mv (.t 8)⟩, false, 0, 0),
  (⟨some 145, none, false, .mv (.t 13)⟩, false, 0, 0),
  (⟨some 146, none, false, .iad 1 (.t 144) (.t 145)⟩, false, 3, 0),
  (⟨some 147, none, false, .ldc (.t 146)⟩, true, 7, 1),
  (⟨some 148, none, false, .cmp .geq (.t 147) (.k (.int .i64 0))⟩, false, 15, 0),
  (⟨some 149, none, false, .mv (.t 148)⟩, false, 31, 0),
  (⟨some 150, some (149, true), false, .mv (.t 13)⟩, false, 63, 0),
  (⟨some 151, some (149, true), false, .fad 2 (.t 4)⟩, false, 63, 0),
  (⟨some 152, some (149, true), false, .ldc (.t 151)⟩, true, 191, 1),
  (⟨some 153, some (149, true), false, .cmp .neq (.t 150) (.t 152)⟩, false, 511, 0),
  (⟨some 154, some (149, true), false, .mv (.t 153)⟩, false, 1023, 0),
  (⟨some 155, some (154, false), false, .mv (.t 8)⟩, false, 2047, 0),
  (⟨some 156, some (154, false), false, .mv (.t 13)⟩, false, 2047, 0),
  (⟨some 157, some (154, false), false, .iad 1 (.t 155) (.t 156)⟩, false, 8191, 0),
  (⟨some 158, some (154, false), false, .ldc (.t 157)⟩, false, 16383, 1),
  (⟨some 159, some (154, false), false, .fad 3 (.t 4)⟩, false, 2047, 0),
  (⟨some 160, some (154, false), false, .ldc (.t 159)⟩, false, 34815, 16384),
  (⟨some 161, some (154, false), false, .cmp .neq (.t 158) (.t 160)⟩, false, 131071, 0),
  (⟨some 162, some (149, true), false, .pick (.t 154) (.k (.bool true)) (.t 161)⟩, false, 262143, 0),
  (⟨some 163, none, false, .pick (.t 149) (.t 162) (.k (.bool false))⟩, false, 524287, 0),
  (⟨some 164, none, false, .mv (.t 163)⟩, false, 1048575, 0),
  (⟨some 165, some (164, true), false, .mv (.t 10)⟩, false, 2097151, 0),
  (⟨some 166, some (164, true), false, .not (.t 165)⟩, false, 4194303, 0),
  (⟨some 167, some (164, true), false, .mv (.t 166)⟩, false, 8388607, 0),
  (⟨some 168, some (167, false), false, .mv (.t 0)⟩, false, 16777215, 0),
  (⟨some 169, some (167, false), false, .mv (.t 13)⟩, false, 16777215, 0),
  (⟨some 170, some (167, false), false, .mv (.t 8)⟩, false, 16777215, 0),
  (⟨some 171, some (167, false), false, .mv (.t 13)⟩, false, 16777215, 0),
  (⟨some 172, some (167, false), false, .iad 1 (.t 170) (.t 171)⟩, false, 218103807, 0),
  (⟨some 173, some (167, false), false, .ldc (.t 172)⟩, true, 486539263, 1),
  (⟨some 174, some (167, false), false, .call (.f 24) [(.t 168), (.k (.int .i64 (-1))), (.t 169), (.t 173)]⟩, true, 1073741823, 1),
  (⟨some 175, some (167, false), false, .not (.t 174)⟩, false, 2147483647, 0),
  (⟨some 176, some (164, true), false, .pick (.t 167) (.k (.bool true)) (.t 175)⟩, false, 4294967295, 0),
  (⟨some 177, none, false, .pick (.t 164) (.t 176) (.k (.bool false))⟩, false, 8589934591, 0)] (some [0, 2, 4, 7, 8, 10, 13, 177])
def ir8_r22 : IC := .reg [⟨some 6, none, false, .mv (.k (.bool false))⟩] (some [6])
def ir8_31 : IC := .seq ir8_r22 .ret
def ir8_32 : IC := .cond (.t 177) ir8_31 .skip
def ir8_33 : IC := .seq ir8_r21 ir8_32
def ir8_34 : IC := .block 5 ir8_33
def ir8_r20 : IC := .reg [⟨some 142, none, false, .mv (.t 13)⟩,
  ⟨some 143, none, false, .ar .add (.t 142) (.k (.int .i64 1))⟩,
  ⟨some 13, none, false, .mv (.t 143)⟩] (some [0, 2, 4, 7, 8, 10, 13])
def ir8_35 : IC := .seq ir8_34 ir8_r20
def ir8_36 : IC := .seq ir8_30 ir8_35
def ir8_37 : IC := .loop ir8_36
def ir8_38 : IC := .block 4 ir8_37
def ir8_39 : IC := .seq ir8_r18 ir8_38
def ir8_r23 : IC := .reg [⟨some 178, none, false, .mv (.t 0)⟩,
  ⟨some 179, none, false, .len (.t 178)⟩,
  ⟨some 180, none, false, .cmp .eql (.t 179) (.k (.int .i64 0))⟩] (some [0, 2, 4, 7, 8, 180])
def ir8_r24 : IC := .draw [(⟨some 181, none, false, .mv (.t 8)⟩, false, 0, 0),
  (⟨some 182, none, false, .fad 2 (.t 4)⟩, false, 0, 0),
  (⟨some 183, none, false, .ldc (.t 182)⟩, false, 2, 1),
  (⟨some 184, none, false, .iad 1 (.t 181) (.t 183)⟩, false, 7, 0),
  (⟨some 185, none, false, .ldc (.t 184)⟩, false, 15, 1),
  (⟨some 186, none, false, .fad 3 (.t 4)⟩, false, 0, 0),
  (⟨some 187, none, false, .ldc (.t 186)⟩, false, 32, 16),
  (⟨some 188, none, false, .cmp .eql (.t 185) (.t 187)⟩, false, 127, 0),
  (⟨some 189, none, false, .mv (.t 188)⟩, false, 255, 0),
  (⟨some 190, some (189, true), false, .call (.f 12) []⟩, true, 511, 1),
  (⟨some 191, none, false, .pick (.t 189) (.t 190) (.k (.bool false))⟩, false, 1023, 0),
  (⟨some 6, none, false, .mv (.t 191)⟩, false, 2047, 0)] (some [6])
def ir8_40 : IC := .seq ir8_r24 .ret
def ir8_41 : IC := .cond (.t 180) ir8_40 .skip
def ir8_42 : IC := .seq ir8_r23 ir8_41
def ir8_r25 : IC := .draw [(⟨some 192, none, false, .bsl 3 0 [] []⟩, false, 0, 1),
  (⟨some 193, none, false, .fad 3 (.t 4)⟩, false, 0, 0),
  (⟨some 194, none, false, .ldc (.t 193)⟩, false, 2, 1),
  (⟨some 195, none, false, .mv (.t 2)⟩, false, 0, 0),
  (⟨some 196, none, false, .conv .i64 (.t 195)⟩, false, 8, 0),
  (⟨some 197, none, false, .fad 3 (.t 4)⟩, false, 0, 0),
  (⟨some 198, none, false, .ldc (.t 197)⟩, false, 32, 3),
  (⟨some 199, none, false, .ar .add (.t 198) (.k (.int .i64 1))⟩, false, 96, 0),
  (⟨some 200, none, false, .div .rem (.t 196) (.t 199)⟩, false, 248, 0),
  (⟨some 201, none, false, .ar .sub (.t 194) (.t 200)⟩, false, 510, 0),
  (⟨some 14, none, false, .mv (.t 192)⟩, false, 1, 0),
  (⟨some 15, none, false, .mv (.t 201)⟩, false, 2047, 0)] (some [0, 2, 4, 7, 8, 14, 15])
def ir8_r26 : IC := .reg [⟨some 16, none, false, .mv (.k (.int .i64 0))⟩] (some [0, 2, 4, 7, 8, 14, 15, 16])
def ir8_r27 : IC := .reg [⟨some 202, none, false, .mv (.t 16)⟩,
  ⟨some 203, none, false, .mv (.t 0)⟩,
  ⟨some 204, none, false, .len (.t 203)⟩,
  ⟨some 205, none, false, .cmp .lss (.t 202) (.t 204)⟩] (some [0, 2, 4, 7, 8, 14, 15, 16, 205])
def ir8_43 : IC := .cond (.t 205) .skip (.exit 6)
def ir8_44 : IC := .seq ir8_r27 ir8_43
def ir8_r29 : IC := .reg [⟨some 208, none, false, .mv (.t 16)⟩,
  ⟨some 209, none, false, .mv (.t 2)⟩,
  ⟨some 210, none, false, .conv .i64 (.t 209)⟩,
  ⟨some 211, none, false, .mv (.t 0)⟩,
  ⟨some 212, none, false, .len (.t 211)⟩,
  ⟨some 213, none, false, .div .rem (.t 210) (.t 212)⟩,
  ⟨some 214, none, false, .cmp .neq (.t 208) (.t 213)⟩,
  ⟨some 215, none, false, .mv (.t 214)⟩,
  ⟨some 216, some (215, false), false, .mv (.t 0)⟩,
  ⟨some 217, some (215, false), false, .mv (.t 16)⟩,
  ⟨some 218, some (215, false), false, .iad 3 (.t 216) (.t 217)⟩,
  ⟨some 219, some (215, false), false, .fad 1 (.t 218)⟩,
  ⟨some 220, some (215, false), false, .ldc (.t 219)⟩,
  ⟨some 221, some (215, false), false, .cmp .geq (.t 220) (.k (.int .i64 0))⟩,
  ⟨some 222, none, false, .pick (.t 215) (.k (.bool true)) (.t 221)⟩] (some [0, 2, 4, 7, 8, 14, 15, 16, 222])
def ir8_r30 : IC := .reg [⟨some 223, none, false, .mv (.t 14)⟩,
  ⟨some 224, none, false, .mv (.t 0)⟩,
  ⟨some 225, none, false, .mv (.t 16)⟩,
  ⟨some 226, none, false, .iad 3 (.t 224) (.t 225)⟩,
  ⟨some 227, none, false, .lda 3 (.t 226)⟩,
  ⟨some 228, none, false, .bsl 3 1 [(.int .i64 0), (.int .i64 0), (.int .i64 0)] [(0, (.t 227))]⟩,
  ⟨some 229, none, false, .app 3 24 (.t 223) (.t 228)⟩,
  ⟨some 14, none, false, .mv (.t 229)⟩] (some [0, 2, 4, 7, 8, 14, 15, 16])
def ir8_45 : IC := .cond (.t 222) ir8_r30 .skip
def ir8_46 : IC := .seq ir8_r29 ir8_45
def ir8_47 : IC := .block 7 ir8_46
def ir8_r28 : IC := .reg [⟨some 206, none, false, .mv (.t 16)⟩,
  ⟨some 207, none, false, .ar .add (.t 206) (.k (.int .i64 1))⟩,
  ⟨some 16, none, false, .mv (.t 207)⟩] (some [0, 2, 4, 7, 8, 14, 15, 16])
def ir8_48 : IC := .seq ir8_47 ir8_r28
def ir8_49 : IC := .seq ir8_44 ir8_48
def ir8_50 : IC := .loop ir8_49
def ir8_51 : IC := .block 6 ir8_50
def ir8_52 : IC := .seq ir8_r26 ir8_51
def ir8_r31 : IC := .reg [⟨some 17, none, false, .mv (.k (.int .i64 0))⟩] (some [0, 4, 7, 8, 14, 15, 17])
def ir8_r32 : IC := .reg [⟨some 230, none, false, .mv (.t 17)⟩,
  ⟨some 231, none, false, .mv (.t 0)⟩,
  ⟨some 232, none, false, .len (.t 231)⟩,
  ⟨some 233, none, false, .cmp .lss (.t 230) (.t 232)⟩] (some [0, 4, 7, 8, 14, 15, 17, 233])
def ir8_53 : IC := .cond (.t 233) .skip (.exit 8)
def ir8_54 : IC := .seq ir8_r32 ir8_53
def ir8_r34 : IC := .draw [(⟨some 236, none, false, .mv (.t 0)⟩, false, 0, 0),
  (⟨some 237, none, false, .mv (.t 17)⟩, false, 0, 0),
  (⟨some 238, none, false, .iad 3 (.t 236) (.t 237)⟩, false, 3, 0),
  (⟨some 239, none, false, .fad 1 (.t 238)⟩, false, 7, 0),
  (⟨some 240, none, false, .ldc (.t 239)⟩, true, 15, 1),
  (⟨some 241, none, false, .cmp .lss (.t 240) (.k (.int .i64 0))⟩, false, 31, 0),
  (⟨some 242, none, false, .mv (.t 241)⟩, false, 63, 0),
  (⟨some 243, some (242, true), false, .mv (.t 0)⟩, false, 127, 0),
  (⟨some 244, some (242, true), false, .mv (.t 17)⟩, false, 127, 0),
  (⟨some 245, some (242, true), false, .iad 3 (.t 243) (.t 244)⟩, false, 511, 0),
  (⟨some 246, some (242, true), false, .fad 2 (.t 245)⟩, false, 1023, 0),
  (⟨some 247, some (242, true), false, .ldc (.t 246)⟩, false, 2047, 1),
  (⟨some 248, some (242, true), false, .fad 2 (.t 4)⟩, false, 127, 0),
  (⟨some 249, some (242, true), false, .ldc (.t 248)⟩, false, 4223, 2048),
  (⟨some 250, some (242, true), false, .cmp .eql (.t 247) (.t 249)⟩, false, 16383, 0),
  (⟨some 251, none, false, .pick (.t 242) (.t 250) (.k (.bool false))⟩, false, 32767, 0),
  (⟨some 252, none, false, .mv (.t 251)⟩, false, 65535, 0),
  (⟨some 253, some (252, true), false, .mv (.t 0)⟩, false, 131071, 0),
  (⟨some 254, some (252, true), false, .mv (.t 17)⟩, false, 131071, 0),
  (⟨some 255, some (252, true), false, .iad 3 (.t 253) (.t 254)⟩, false, 524287, 0),
  (⟨some 256, some (252, true), false, .fad 0 (.t 255)⟩, false, 1048575, 0),
  (⟨some 257, some (252, true), false, .ldc (.t 256)⟩, true, 2097151, 1),
  (⟨some 258, some (252, true), false, .mv (.t 15)⟩, false, 131071, 0),
  (⟨some 259, some (252, true), false, .cmp .geq (.t 257) (.t 258)⟩, false, 8388607, 0),
  (⟨some 260, none, false, .pick (.t 252) (.t 259) (.k (.bool false))⟩, false, 16777215, 0),
  (⟨some 261, none, false, .mv (.t 260)⟩, false, 33554431, 0),
  (⟨some 262, some (261, true), false, .mv (.t 0)⟩, false, 67108863, 0),
  (⟨some 263, some (261, true), false, .mv (.t 17)⟩, false, 67108863, 0),
  (⟨some 264, some (261, true), false, .iad 3 (.t 262) (.t 263)⟩, false, 268435455, 0),
  (⟨some 265, some (261, true), false, .fad 0 (.t 264)⟩, false, 536870911, 0),
  (⟨some 266, some (261, true), false, .ldc (.t 265)⟩, false, 1073741823, 1),
  (⟨some 267, some (261, true), false, .fad 3 (.t 4)⟩, false, 67108863, 0),
  (⟨some 268, some (261, true), false, .ldc (.t 267)⟩, false, 2214592511, 1073741824),
  (⟨some 269, some (261, true), false, .cmp .lss (.t 266) (.t 268)⟩, false, 8589934591, 0),
  (⟨some 270, none, false, .pick (.t 261) (.t 269) (.k (.bool false))⟩, false, 17179869183, 0)] (some [0, 4, 7, 8, 14, 15, 17, 270])
def ir8_r35 : IC := .reg [⟨some 271, none, false, .fad 3 (.t 4)⟩,
  ⟨some 272, none, false, .ldc (.t 271)⟩,
  ⟨some 15, none, false, .mv (.t 272)⟩] (some [0, 4, 7, 8, 14, 15, 17])
def ir8_55 : IC := .cond (.t 270) ir8_r35 .skip
def ir8_56 : IC := .seq ir8_r34 ir8_55
def ir8_57 : IC := .block 9 ir8_56
def ir8_r33 : IC := .reg [⟨some 234, none, false, .mv (.t 17)⟩,
  ⟨some 235, none, false, .ar .add (.t 234) (.k (.int .i64 1))⟩,
  ⟨some 17, none, false, .mv (.t 235)⟩] (some [0, 4, 7, 8, 14, 15, 17])
def ir8_58 : IC := .seq ir8_57 ir8_r33
def ir8_59 : IC := .seq ir8_54 ir8_58
def ir8_60 : IC := .loop ir8_59
def ir8_61 : IC := .block 8 ir8_60
def ir8_62 : IC := .seq ir8_r31 ir8_61
def ir8_r36 : IC := .draw [(⟨some 274, none, false, .bsl 3 0 [] []⟩, false, 0, 1),
  (⟨some 275, none, false, .mv (.t 0)⟩, false, 0, 0),
  (⟨some 276, none, false, .app 3 24 (.t 274) (.t 275)⟩, false, 3, 1),
  (⟨some 277, none, false, .fad 0 (.t 4)⟩, false, 0, 0),
  (⟨some 278, none, false, .ldc (.t 277)⟩, false, 8, 4),
  (⟨some 279, none, false, .fad 1 (.t 4)⟩, false, 0, 0),
  (⟨some 280, none, false, .ldc (.t 279)⟩, false, 32, 12),
  (⟨some 281, none, false, .fad 2 (.t 4)⟩, false, 0, 0),
  (⟨some 282, none, false, .ldc (.t 281)⟩, false, 128, 44),
  (⟨some 283, none, false, .mv (.t 15)⟩, false, 0, 0),
  (⟨some 284, none, false, .call (.f 20) [(.t 276), (.t 278), (.t 280), (.t 282), (.t 283)]⟩, true, 1023, 1),
  (⟨some 273, none, false, .mv (.t 284)⟩, false, 2047, 0),
  (⟨some 285, none, false, .ext (.t 273) 0⟩, false, 4095, 0),
  (⟨some 286, none, false, .ext (.t 273) 1⟩, false, 4095, 0),
  (⟨some 287, none, false, .ext (.t 273) 2⟩, false, 4095, 0),
  (⟨some 18, none, false, .mv (.t 285)⟩, false, 8191, 0),
  (⟨some 19, none, false, .mv (.t 286)⟩, false, 49151, 0),
  (⟨some 9, none, false, .mv (.t 287)⟩, false, 131071, 0)] (some [4, 7, 8, 9, 14, 18, 19])
def ir8_r37 : IC := .reg [⟨some 289, none, false, .mv (.t 14)⟩,
  ⟨some 290, none, false, .fad 0 (.t 4)⟩,
  ⟨some 291, none, false, .ldc (.t 290)⟩,
  ⟨some 292, none, false, .fad 1 (.t 4)⟩,
  ⟨some 293, none, false, .ldc (.t 292)⟩,
  ⟨some 294, none, false, .fad 2 (.t 4)⟩,
  ⟨some 295, none, false, .ldc (.t 294)⟩,
  ⟨some 296, none, false, .fad 3 (.t 4)⟩,
  ⟨some 297, none, false, .ldc (.t 296)⟩,
  ⟨some 298, none, false, .call (.f 20) [(.t 289), (.t 291), (.t 293), (.t 295), (.t 297)]⟩,
  ⟨some 288, none, false, .mv (.t 298)⟩,
  ⟨some 299, none, false, .ext (.t 288) 0⟩,
  ⟨some 300, none, false, .ext (.t 288) 1⟩,
  ⟨some 301, none, false, .ext (.t 288) 2⟩,
  ⟨some 20, none, false, .mv (.t 299)⟩,
  ⟨some 21, none, false, .mv (.t 300)⟩,
  ⟨some 22, none, false, .mv (.t 301)⟩] (some [7, 8, 9, 18, 19, 20, 21, 22])
def ir8_r38 : IC := .reg [⟨some 302, none, false, .mv (.t 9)⟩,
  ⟨some 303, none, false, .cmp .eql (.t 302) (.k (.int .i64 0))⟩,
  ⟨some 304, none, false, .mv (.t 303)⟩,
  ⟨some 305, some (304, true), false, .mv (.t 22)⟩,
  ⟨some 306, some (304, true), false, .cmp .eql (.t 305) (.k (.int .i64 0))⟩,
  ⟨some 307, none, false, .pick (.t 304) (.t 306) (.k (.bool false))⟩,
  ⟨some 308, none, false, .mv (.t 307)⟩,
  ⟨some 309, some (308, true), false, .mv (.t 18)⟩,
  ⟨some 310, some (308, true), false, .mv (.t 7)⟩,
  ⟨some 311, some (308, true), false, .call (.f 25) [(.t 309), (.t 310)]⟩,
  ⟨some 312, none, false, .pick (.t 308) (.t 311) (.k (.bool false))⟩,
  ⟨some 313, none, false, .mv (.t 312)⟩,
  ⟨some 314, some (313, true), false, .mv (.t 20)⟩,
  ⟨some 315, some (313, true), false, .mv (.t 7)⟩,
  ⟨some 316, some (313, true), false, .call (.f 25) [(.t 314), (.t 315)]⟩,
  ⟨some 317, none, false, .pick (.t 313) (.t 316) (.k (.bool false))⟩,
  ⟨some 318, none, false, .mv (.t 317)⟩,
  ⟨some 319, some (318, true), false, .mv (.t 19)⟩,
  ⟨some 320, some (318, true), false, .mv (.t 8)⟩,
  ⟨some 321, some (318, true), false, .call (.f 25) [(.t 319), (.t 320)]⟩,
  ⟨some 322, none, false, .pick (.t 318) (.t 321) (.k (.bool false))⟩,
  ⟨some 323, none, false, .mv (.t 322)⟩,
  ⟨some 324, some (323, true), false, .mv (.t 21)⟩,
  ⟨some 325, some (323, true), false, .mv (.t 8)⟩,
  ⟨some 326, some (323, true), false, .call (.f 25) [(.t 324), (.t 325)]⟩,
  ⟨some 327, none, false, .pick (.t 323) (.t 326) (.k (.bool false))⟩,
  ⟨some 328, none, false, .mv (.t 327)⟩,
  ⟨some 329, some (328, true), false, .call (.f 12) []⟩,
  ⟨some 330, none, false, .pick (.t 328) (.t 329) (.k (.bool false))⟩,
  ⟨some 6, none, false, .mv (.t 330)⟩] (some [6])
def ir8_63 : IC := .seq ir8_r38 .ret
def ir8_64 : IC := .seq ir8_r37 ir8_63
def ir8_65 : IC := .seq ir8_r36 ir8_64
def ir8_66 : IC := .seq ir8_62 ir8_65
def ir8_67 : IC := .seq ir8_52 ir8_66
def ir8_68 : IC := .seq ir8_r25 ir8_67
def ir8_69 : IC := .seq ir8_42 ir8_68
def ir8_70 : IC := .seq ir8_39 ir8_69
def ir8_71 : IC := .seq ir8_28 ir8_70
def ir8_72 : IC := .seq ir8_17 ir8_71
def ir8_73 : IC := .seq ir8_r8 ir8_72
def ir8_74 : IC := .seq ir8_9 ir8_73
def ir8_75 : IC := .seq ir8_6 ir8_74
def ir8_76 : IC := .seq ir8_r3 ir8_75
def ir8_77 : IC := .seq ir8_3 ir8_76
def ir8_78 : IC := .seq ir8_r0 ir8_77
def ir8 : IC := ir8_78
theorem fn8 : FnIs Try.prog 8 ir8 331 [.tmp 6] := ⟨Try.f8, Try.f8.body.getD .skip, Try.func8, by kernel_rfl, by kernel_rfl, by kernel_rfl, by kernel_rfl⟩
abbrev badV (lots tools bad since : Int) : Value := .agg #[.int .i64 lots, .int .i64 tools, .int .i64 bad, .int .i64 since]
abbrev badB (lots tools bad since : Int) : Option AObj := some (.cells ⟨[.int .i64 lots, .int .i64 tools, .int .i64 bad, .int .i64 since], 1, false⟩)
/-- A cleaning of the bad tool in between. -/
def clnP (bad t since : Int) (x : Tc) : Bool := decide (x.2.1 < 0) && decide (x.2.2 = bad) && decide (t ≤ x.1) && decide (x.1 < since)
set_option maxHeartbeats 4000000 in
theorem touched_rest (n c p q r : Nat) (l : List Tc) (a b : List Int) (since chg t : Int) (hl : l.length = n) (hn0 : n ≠ 0) (hb : n ≤ 1000000) (he : tcE l p q r since = 0) (hcg : 0 ≤ chg ∧ chg ≤ 65535) (len1 : a.length = p) (len2 : b.length = q) (ht0 : 0 ≤ t) (hts : t ≤ since)
    (hmor : (chg % n).toNat < l.length → TL2 (a, b) (tnG (moL l (chg % n).toNat l.length) p q r since))
    (hsin : ∀ t, 0 ≤ t → t ≤ since → (∀ x ∈ l, x.2.1 < 0 → x.2.2 = r → t ≤ x.1 → x.1 < since → False) → TL2 (a, b) (tnG l p q r t)) :
    ITri Try.prog 331 none 2 ir8_67 [(0, .slice (some ⟨1, 0, none⟩) n c), (2, .int .u16 chg), (4, pt 2), (7, .slice (some ⟨3, 0, none⟩) p openB), (8, .slice (some ⟨4, 0, none⟩) q openB), (14, .slice (some ⟨5, 0, none⟩) 0 0), (15, .int .i64 t)] [] (Hq 2 [] [none, some (.cells ⟨rows eC l, 0, false⟩), badB p q r since, some (.cells ⟨rows eN a, 1, true⟩), some (.cells ⟨rows eN b, 1, true⟩), some (.cells ⟨[], 3, false⟩)]) (EndR Try.prog [.tmp 6] 2 [] (.bool true)) := by
  obtain ⟨hl5, bl, bt, bs, bb, hix, hsr⟩ := tc_ok he
  have hl1 : (rows eC l).length = n * 3 := by rw [rows_len, hl]
  have ht1 : takeC (rows eC l) 0 (n * 3) = some (rows eC l) := takeC_0 _ _ hl1
  obtain ⟨j, hj⟩ : ∃ j : Nat, chg % n = j := ⟨(chg % n).toNat, by have := Int.emod_nonneg chg (show (n : Int) ≠ 0 by omega); omega⟩
  have hjn : j < n := by have := Int.emod_lt_of_pos chg (show (0 : Int) < n by omega); omega
  rw [hj, Int.toNat_natCast] at hmor
  have hmor := hmor (by omega)
  refine ITri.seq ?_
  refine ITri.seq ?_
  refine ITri.reg pokT ?_; simp -implicitDefEqProofs (disch := first | decide | exact of_eq_true (eq_true rfl) | omega | assumption) only [ ↓vcD, vcE, evs, evP, evB, intsOf, fillC, Value.cells, pt, List.append_nil, List.nil_append, List.cons_append, List.length_cons, List.length_nil, List.filter_nil, List.map_nil, ↓List.getElem?_cons_zero, ↓List.getElem?_cons_succ, List.getElem?_cons_zero, List.getElem?_cons_succ, List.set_cons_zero, List.set_cons_succ, Option.join_some, Option.join_none, Option.map_some, List.all_cons, List.all_nil, Value.oneCell', reduceIte, reduceCtorEq, Nat.reduceEqDiff, Nat.reduceAdd, Nat.reduceMul, Nat.reduceLT, Nat.reduceBEq, Nat.reduceLeDiff, Nat.reduceSub, List.size_toArray] -- r26
  refine ITri.block ?_ -- 6
  refine ITri.loop (fun k : Nat => [(0, .slice (some ⟨1, 0, none⟩) n c), (2, .int .u16 chg), (4, pt 2), (7, .slice (some ⟨3, 0, none⟩) p openB), (8, .slice (some ⟨4, 0, none⟩) q openB), (14, .slice (some ⟨5, 0, none⟩) (moL l j k).length openB), (15, .int .i64 t), (16, .int .i64 k)]) (fun _ => []) (fun k => Hp 2 [none, some (.cells ⟨rows eC l, 0, false⟩), badB p q r since, some (.cells ⟨rows eN a, 1, true⟩), some (.cells ⟨rows eN b, 1, true⟩), some (.cells ⟨rows eC (moL l j k), 3, true⟩)]) (fun k => k ≤ n) (fun k => n - k) 0 (Nat.zero_le _) (Wk.gc [0, 1, 2, 3, 4, 5] [(5, .room 0)] (of_decide_eq_true rfl) (of_decide_eq_true rfl) rfl rfl (of_decide_eq_true rfl) rfl rfl (by repeat (first | exact xiOK_nil | refine xiOK_cons (by first | trivial | exact roomOK _ (by decide)) ?_)) rfl (by simp -implicitDefEqProofs (disch := first | decide | exact of_eq_true (eq_true rfl) | omega | assumption) only [moL_0, rows_nil, objOK, sgL, xiL, objAt, nilO, OM, mvL, mv, mvS, okS, okP, mvL_rows, okML, okM, okML_rows, List.getElem?_cons_zero, Option.getD_some, implies_true, imp_self, ne_eq, and_self, true_or, or_true, Nat.zero_mul, Nat.sub_self, openB_self, ↓vcD, vcE, evs, evP, evB, intsOf, fillC, Value.cells, pt, List.append_nil, List.nil_append, List.cons_append, List.length_cons, List.length_nil, List.filter_nil, List.map_nil, ↓List.getElem?_cons_zero, ↓List.getElem?_cons_succ, List.getElem?_cons_zero, List.getElem?_cons_succ, List.set_cons_zero, List.set_cons_succ, Option.join_some, Option.join_none, Option.map_some, List.all_cons, List.all_nil, Value.oneCell', reduceIte, reduceCtorEq, Nat.reduceEqDiff, Nat.reduceAdd, Nat.reduceMul, Nat.reduceLT, Nat.reduceBEq, Nat.reduceLeDiff, Nat.reduceSub, List.size_toArray]) (by simp -implicitDefEqProofs (disch := first | decide | exact of_eq_true (eq_true rfl) | omega | assumption) only [moL_0, rows_nil, valOK, sgL, xiL, mv, mvA, mvL, mvS, okS, okP, okM, okMA, okML, Option.getD_some, implies_true, and_self, true_or, or_true, Int.natCast_add, Int.cast_ofNat_Int, Nat.zero_mul, Nat.sub_self, openB_self, ↓vcD, vcE, evs, evP, evB, intsOf, fillC, Value.cells, pt, List.append_nil, List.nil_append, List.cons_append, List.length_cons, List.length_nil, List.filter_nil, List.map_nil, ↓List.getElem?_cons_zero, ↓List.getElem?_cons_succ, List.getElem?_cons_zero, List.getElem?_cons_succ, List.set_cons_zero, List.set_cons_succ, Option.join_some, Option.join_none, Option.map_some, List.all_cons, List.all_nil, Value.oneCell', reduceIte, reduceCtorEq, Nat.reduceEqDiff, Nat.reduceAdd, Nat.reduceMul, Nat.reduceLT, Nat.reduceBEq, Nat.reduceLeDiff, Nat.reduceSub, List.size_toArray]) (fun _ h => by cases h) ⟨rfl, fun _ h => by cases h⟩) fun k hk => ?_
  refine ITri.seq ?_
  refine ITri.seq ?_
  refine ITri.reg pokT ?_; simp -implicitDefEqProofs (disch := first | decide | exact of_eq_true (eq_true rfl) | omega | assumption) only [ ↓vcD, vcE, evs, evP, evB, intsOf, fillC, Value.cells, pt, List.append_nil, List.nil_append, List.cons_append, List.length_cons, List.length_nil, List.filter_nil, List.map_nil, ↓List.getElem?_cons_zero, ↓List.getElem?_cons_succ, List.getElem?_cons_zero, List.getElem?_cons_succ, List.set_cons_zero, List.set_cons_succ, Option.join_some, Option.join_none, Option.map_some, List.all_cons, List.all_nil, Value.oneCell', reduceIte, reduceCtorEq, Nat.reduceEqDiff, Nat.reduceAdd, Nat.reduceMul, Nat.reduceLT, Nat.reduceBEq, Nat.reduceLeDiff, Nat.reduceSub, List.size_toArray] -- r27
  refine ITri.condD (by rfl) (fun h2 => ?_) (fun h2 => ?_)
  · have hkr : k < l.length := by omega
    obtain ⟨⟨a1, a2, a3⟩, hab⟩ : ∃ r, nth l k = r := ⟨_, rfl⟩
    have gb : (rows eC l)[k * 3 + 1]? = some (.int .i64 a2) := by rw [rows_get (f := eC) hkr (by omega), hab]; rfl
    have htk : takeC (rows eC l) (k * 3) 3 = some [.int .i64 a1, .int .i64 a2, .int .i64 a3] := by rw [rows_takeC (f := eC) hkr, hab]; rfl
    have hml := moL_len l j k (by omega)
    have hlr : (rows eC (moL l j k)).length = (moL l j k).length * 3 := by rw [rows_len]
    refine ITri.skip ?_; simp only [SeqQ_normal, BlkQ_normal]
    refine ITri.seq ?_
    refine ITri.block ?_ -- 7
    refine ITri.seq ?_
    by_cases hin : k ≠ j ∨ 0 ≤ (nth l k).2.1
    · have hmi := moL_in hkr hin
      have hsn : rows eC (moL l j k) ++ [.int .i64 a1, .int .i64 a2, .int .i64 a3] = rows eC (moL l j (k + 1)) := by
        rw [hmi, rows_append, rows_one, hab]
        rfl
      have hsl : (moL l j k).length + 1 = (moL l j (k + 1)).length := by rw [hmi]; simp
      refine ITri.one (P := Try.prog) [(0, .slice (some ⟨1, 0, none⟩) n c), (2, .int .u16 chg), (4, pt 2), (7, .slice (some ⟨3, 0, none⟩) p openB), (8, .slice (some ⟨4, 0, none⟩) q openB), (14, .slice (some ⟨5, 0, none⟩) (moL l j k).length openB), (15, .int .i64 t), (16, .int .i64 k), (222, .bool true)] ?_ ?_
      · by_cases hkj : k = j
        · subst hkj
          have ha2 : 0 ≤ a2 := by
            rcases hin with e | e
            · exact absurd rfl e
            · rwa [hab] at e
          refine ITri.reg pokT ?_; simp -implicitDefEqProofs (disch := first | decide | exact of_eq_true (eq_true rfl) | omega | assumption) only [hj, gb, ha2, eq_self, not_true_eq_false, decide_true, decide_false,  ↓vcD, vcE, evs, evP, evB, intsOf, fillC, Value.cells, pt, List.append_nil, List.nil_append, List.cons_append, List.length_cons, List.length_nil, List.filter_nil, List.map_nil, ↓List.getElem?_cons_zero, ↓List.getElem?_cons_succ, List.getElem?_cons_zero, List.getElem?_cons_succ, List.set_cons_zero, List.set_cons_succ, Option.join_some, Option.join_none, Option.map_some, List.all_cons, List.all_nil, Value.oneCell', reduceIte, reduceCtorEq, Nat.reduceEqDiff, Nat.reduceAdd, Nat.reduceMul, Nat.reduceLT, Nat.reduceBEq, Nat.reduceLeDiff, Nat.reduceSub, List.size_toArray]
        · have hkj2 : ¬ (k : Int) = j := by omega
          refine ITri.reg pokT ?_; simp -implicitDefEqProofs (disch := first | decide | exact of_eq_true (eq_true rfl) | omega | assumption) only [hj, hkj2, not_false_eq_true, decide_true, decide_false, Bool.not_false,  ↓vcD, vcE, evs, evP, evB, intsOf, fillC, Value.cells, pt, List.append_nil, List.nil_append, List.cons_append, List.length_cons, List.length_nil, List.filter_nil, List.map_nil, ↓List.getElem?_cons_zero, ↓List.getElem?_cons_succ, List.getElem?_cons_zero, List.getElem?_cons_succ, List.set_cons_zero, List.set_cons_succ, Option.join_some, Option.join_none, Option.map_some, List.all_cons, List.all_nil, Value.oneCell', reduceIte, reduceCtorEq, Nat.reduceEqDiff, Nat.reduceAdd, Nat.reduceMul, Nat.reduceLT, Nat.reduceBEq, Nat.reduceLeDiff, Nat.reduceSub, List.size_toArray]
      refine ITri.cond (v := true) rfl (fun _ => ?_) (fun h => by cases h)
      refine ITri.reg pokT ?_; simp -implicitDefEqProofs (disch := first | decide | exact of_eq_true (eq_true rfl) | omega | assumption) only [htk, hlr,  ↓vcD, vcE, evs, evP, evB, intsOf, fillC, Value.cells, pt, List.append_nil, List.nil_append, List.cons_append, List.length_cons, List.length_nil, List.filter_nil, List.map_nil, ↓List.getElem?_cons_zero, ↓List.getElem?_cons_succ, List.getElem?_cons_zero, List.getElem?_cons_succ, List.set_cons_zero, List.set_cons_succ, Option.join_some, Option.join_none, Option.map_some, List.all_cons, List.all_nil, Value.oneCell', reduceIte, reduceCtorEq, Nat.reduceEqDiff, Nat.reduceAdd, Nat.reduceMul, Nat.reduceLT, Nat.reduceBEq, Nat.reduceLeDiff, Nat.reduceSub, List.size_toArray] -- r30
      rw [hsn, hsl]
      refine ITri.reg pokT ?_; simp -implicitDefEqProofs (disch := first | decide | exact of_eq_true (eq_true rfl) | omega | assumption) only [ ↓vcD, vcE, evs, evP, evB, intsOf, fillC, Value.cells, pt, List.append_nil, List.nil_append, List.cons_append, List.length_cons, List.length_nil, List.filter_nil, List.map_nil, ↓List.getElem?_cons_zero, ↓List.getElem?_cons_succ, List.getElem?_cons_zero, List.getElem?_cons_succ, List.set_cons_zero, List.set_cons_succ, Option.join_some, Option.join_none, Option.map_some, List.all_cons, List.all_nil, Value.oneCell', reduceIte, reduceCtorEq, Nat.reduceEqDiff, Nat.reduceAdd, Nat.reduceMul, Nat.reduceLT, Nat.reduceBEq, Nat.reduceLeDiff, Nat.reduceSub, List.size_toArray] -- r28
      exact LoopQ.next (k + 1) (by omega) (by omega) (Wk.gc [0, 1, 2, 3, 4, 7] [] (of_decide_eq_true rfl) (of_decide_eq_true rfl) rfl rfl (of_decide_eq_true rfl) rfl rfl (fun _ h => by cases h) rfl (by simp -implicitDefEqProofs (disch := first | decide | exact of_eq_true (eq_true rfl) | omega | assumption) only [objOK, sgL, xiL, objAt, nilO, OM, mvL, mv, mvS, okS, okP, mvL_rows, okML, okM, okML_rows, List.getElem?_cons_zero, Option.getD_some, implies_true, imp_self, ne_eq, and_self, ↓vcD, vcE, evs, evP, evB, intsOf, fillC, Value.cells, pt, List.append_nil, List.nil_append, List.cons_append, List.length_cons, List.length_nil, List.filter_nil, List.map_nil, ↓List.getElem?_cons_zero, ↓List.getElem?_cons_succ, List.getElem?_cons_zero, List.getElem?_cons_succ, List.set_cons_zero, List.set_cons_succ, Option.join_some, Option.join_none, Option.map_some, List.all_cons, List.all_nil, Value.oneCell', reduceIte, reduceCtorEq, Nat.reduceEqDiff, Nat.reduceAdd, Nat.reduceMul, Nat.reduceLT, Nat.reduceBEq, Nat.reduceLeDiff, Nat.reduceSub, List.size_toArray]) (by simp -implicitDefEqProofs (disch := first | decide | exact of_eq_true (eq_true rfl) | omega | assumption) only [ valOK, sgL, xiL, mv, mvA, mvL, mvS, okS, okP, okM, okMA, okML, Option.getD_some, implies_true, and_self, Int.natCast_add, Int.cast_ofNat_Int, ↓vcD, vcE, evs, evP, evB, intsOf, fillC, Value.cells, pt, List.append_nil, List.nil_append, List.cons_append, List.length_cons, List.length_nil, List.filter_nil, List.map_nil, ↓List.getElem?_cons_zero, ↓List.getElem?_cons_succ, List.getElem?_cons_zero, List.getElem?_cons_succ, List.set_cons_zero, List.set_cons_succ, Option.join_some, Option.join_none, Option.map_some, List.all_cons, List.all_nil, Value.oneCell', reduceIte, reduceCtorEq, Nat.reduceEqDiff, Nat.reduceAdd, Nat.reduceMul, Nat.reduceLT, Nat.reduceBEq, Nat.reduceLeDiff, Nat.reduceSub, List.size_toArray]) (fun _ h => by cases h) ⟨rfl, fun _ h => by cases h⟩)
    · have hkj : k = j := by omega
      have ha2 : ¬ 0 ≤ (nth l k).2.1 := fun e => hin (.inr e)
      have hmo := moL_out hkr hkj ha2
      rw [hab] at ha2
      have ha3 : ¬ 0 ≤ a2 := ha2
      subst hkj
      refine ITri.one (P := Try.prog) [(0, .slice (some ⟨1, 0, none⟩) n c), (2, .int .u16 chg), (4, pt 2), (7, .slice (some ⟨3, 0, none⟩) p openB), (8, .slice (some ⟨4, 0, none⟩) q openB), (14, .slice (some ⟨5, 0, none⟩) (moL l k k).length openB), (15, .int .i64 t), (16, .int .i64 k), (222, .bool false)] ?_ ?_
      · refine ITri.reg pokT ?_; simp -implicitDefEqProofs (disch := first | decide | exact of_eq_true (eq_true rfl) | omega | assumption) only [hj, gb, ha3, eq_self, not_true_eq_false, decide_true, decide_false, Bool.not_true,  ↓vcD, vcE, evs, evP, evB, intsOf, fillC, Value.cells, pt, List.append_nil, List.nil_append, List.cons_append, List.length_cons, List.length_nil, List.filter_nil, List.map_nil, ↓List.getElem?_cons_zero, ↓List.getElem?_cons_succ, List.getElem?_cons_zero, List.getElem?_cons_succ, List.set_cons_zero, List.set_cons_succ, Option.join_some, Option.join_none, Option.map_some, List.all_cons, List.all_nil, Value.oneCell', reduceIte, reduceCtorEq, Nat.reduceEqDiff, Nat.reduceAdd, Nat.reduceMul, Nat.reduceLT, Nat.reduceBEq, Nat.reduceLeDiff, Nat.reduceSub, List.size_toArray]
      refine ITri.cond (v := false) rfl (fun h => by cases h) (fun _ => ?_); refine ITri.skip ?_; simp only [SeqQ_normal, BlkQ_normal]
      rw [← hmo]
      refine ITri.reg pokT ?_; simp -implicitDefEqProofs (disch := first | decide | exact of_eq_true (eq_true rfl) | omega | assumption) only [ ↓vcD, vcE, evs, evP, evB, intsOf, fillC, Value.cells, pt, List.append_nil, List.nil_append, List.cons_append, List.length_cons, List.length_nil, List.filter_nil, List.map_nil, ↓List.getElem?_cons_zero, ↓List.getElem?_cons_succ, List.getElem?_cons_zero, List.getElem?_cons_succ, List.set_cons_zero, List.set_cons_succ, Option.join_some, Option.join_none, Option.map_some, List.all_cons, List.all_nil, Value.oneCell', reduceIte, reduceCtorEq, Nat.reduceEqDiff, Nat.reduceAdd, Nat.reduceMul, Nat.reduceLT, Nat.reduceBEq, Nat.reduceLeDiff, Nat.reduceSub, List.size_toArray] -- r28
      exact LoopQ.next (k + 1) (by omega) (by omega) (Wk.sub ⟨rfl, rfl, rfl, rfl, rfl, rfl, rfl, rfl, trivial⟩)
  refine ITri.exit ?_; try simp -implicitDefEqProofs (disch := first | decide | exact of_eq_true (eq_true rfl) | omega | assumption) only [ ↓vcD, vcE, evs, evP, evB, intsOf, fillC, Value.cells, pt, List.append_nil, List.nil_append, List.cons_append, List.length_cons, List.length_nil, List.filter_nil, List.map_nil, ↓List.getElem?_cons_zero, ↓List.getElem?_cons_succ, List.getElem?_cons_zero, List.getElem?_cons_succ, List.set_cons_zero, List.set_cons_succ, Option.join_some, Option.join_none, Option.map_some, List.all_cons, List.all_nil, Value.oneCell', reduceIte, reduceCtorEq, Nat.reduceEqDiff, Nat.reduceAdd, Nat.reduceMul, Nat.reduceLT, Nat.reduceBEq, Nat.reduceLeDiff, Nat.reduceSub, List.size_toArray]
  obtain rfl : n = k := by omega
  rw [← hl] at hj hjn ⊢
  obtain ⟨l2, hl2⟩ : ∃ l2, moL l j l.length = l2 := ⟨_, rfl⟩
  obtain ⟨m, hm⟩ : ∃ m, l2.length = m := ⟨_, rfl⟩
  have hsub := moL_sub (j := j) hjn
  rw [hl2] at hsub hmor ⊢
  rw [hm]
  obtain ⟨n, hl⟩ : ∃ n, l.length = n := ⟨_, rfl⟩
  have hlen2 : l2.length ≤ l.length := hsub.length_le
  have he2 : tcE l2 p q r since = 0 := tc_mk (by omega) bl bt bs bb (fun x hx => hix x (hsub.subset hx)) (hsr.sublist hsub)
  rw [hl]
  refine ITri.seq ?_
  refine ITri.seq ?_
  refine ITri.reg pokT ?_; simp -implicitDefEqProofs (disch := first | decide | exact of_eq_true (eq_true rfl) | omega | assumption) only [ ↓vcD, vcE, evs, evP, evB, intsOf, fillC, Value.cells, pt, List.append_nil, List.nil_append, List.cons_append, List.length_cons, List.length_nil, List.filter_nil, List.map_nil, ↓List.getElem?_cons_zero, ↓List.getElem?_cons_succ, List.getElem?_cons_zero, List.getElem?_cons_succ, List.set_cons_zero, List.set_cons_succ, Option.join_some, Option.join_none, Option.map_some, List.all_cons, List.all_nil, Value.oneCell', reduceIte, reduceCtorEq, Nat.reduceEqDiff, Nat.reduceAdd, Nat.reduceMul, Nat.reduceLT, Nat.reduceBEq, Nat.reduceLeDiff, Nat.reduceSub, List.size_toArray] -- r31
  refine ITri.block ?_ -- 8
  refine ITri.loop (fun y : Nat × Int => [(0, .slice (some ⟨1, 0, none⟩) n c), (4, pt 2), (7, .slice (some ⟨3, 0, none⟩) p openB), (8, .slice (some ⟨4, 0, none⟩) q openB), (14, .slice (some ⟨5, 0, none⟩) m openB), (15, .int .i64 y.2), (17, .int .i64 y.1)]) (fun _ => []) (fun y => Hp 2 [none, some (.cells ⟨rows eC l, 0, false⟩), badB p q r since, some (.cells ⟨rows eN a, 1, true⟩), some (.cells ⟨rows eN b, 1, true⟩), some (.cells ⟨rows eC l2, 3, true⟩)]) (fun y => y.1 ≤ n ∧ (y.2 = since ∨ y.2 = t ∧ (l.take y.1).any (clnP r t since) = false)) (fun y => n - y.1) (0, t) ⟨Nat.zero_le _, .inr ⟨rfl, rfl⟩⟩ (Wk.sub ⟨rfl, rfl, rfl, rfl, rfl, rfl, rfl, trivial⟩) fun y hy => ?_
  obtain ⟨k, t2⟩ := y
  obtain ⟨hk, hy2⟩ := hy
  simp only at hk hy2
  refine ITri.seq ?_
  refine ITri.seq ?_
  refine ITri.reg pokT ?_; simp -implicitDefEqProofs (disch := first | decide | exact of_eq_true (eq_true rfl) | omega | assumption) only [ ↓vcD, vcE, evs, evP, evB, intsOf, fillC, Value.cells, pt, List.append_nil, List.nil_append, List.cons_append, List.length_cons, List.length_nil, List.filter_nil, List.map_nil, ↓List.getElem?_cons_zero, ↓List.getElem?_cons_succ, List.getElem?_cons_zero, List.getElem?_cons_succ, List.set_cons_zero, List.set_cons_succ, Option.join_some, Option.join_none, Option.map_some, List.all_cons, List.all_nil, Value.oneCell', reduceIte, reduceCtorEq, Nat.reduceEqDiff, Nat.reduceAdd, Nat.reduceMul, Nat.reduceLT, Nat.reduceBEq, Nat.reduceLeDiff, Nat.reduceSub, List.size_toArray] -- r32
  refine ITri.condD (by rfl) (fun h2 => ?_) (fun h2 => ?_)
  · have hkr : k < l.length := by omega
    obtain ⟨⟨a1, a2, a3⟩, hab⟩ : ∃ r, nth l k = r := ⟨_, rfl⟩
    have ga : (rows eC l)[k * 3]? = some (.int .i64 a1) := by rw [rows_get0 (f := eC) hkr (by omega), hab]; rfl
    have gb : (rows eC l)[k * 3 + 1]? = some (.int .i64 a2) := by rw [rows_get (f := eC) hkr (by omega), hab]; rfl
    have gc : (rows eC l)[k * 3 + 2]? = some (.int .i64 a3) := by rw [rows_get (f := eC) hkr (by omega), hab]; rfl
    have hstep : (l.take (k + 1)).any (clnP r t since) = ((l.take k).any (clnP r t since) || clnP r t since (a1, a2, a3)) := by rw [take_sn hkr, List.any_append, hab]; simp
    refine ITri.skip ?_; simp only [SeqQ_normal, BlkQ_normal]
    refine ITri.seq ?_
    refine ITri.block ?_ -- 9
    refine ITri.seq ?_
    refine ITri.one (P := Try.prog) [(0, .slice (some ⟨1, 0, none⟩) n c), (4, pt 2), (7, .slice (some ⟨3, 0, none⟩) p openB), (8, .slice (some ⟨4, 0, none⟩) q openB), (14, .slice (some ⟨5, 0, none⟩) m openB), (15, .int .i64 t2), (17, .int .i64 k), (270, .bool (clnP r t2 since (a1, a2, a3)))] ?_ ?_
    · have e1 : clnP r t2 since (a1, a2, a3) = (decide (a2 < 0) && decide (a3 = (r : Int)) && decide (t2 ≤ a1) && decide (a1 < since)) := rfl
      rw [e1]
      cases t1 : decide (a2 < 0)
      · refine ITri.draw pokT ?_; simp -implicitDefEqProofs (disch := first | decide | exact of_eq_true (eq_true rfl) | omega | assumption) only [ga, gb, gc, t1, Bool.true_and, Bool.false_and,  ↓vcD, vcE, evs, evP, evB, intsOf, fillC, Value.cells, pt, List.append_nil, List.nil_append, List.cons_append, List.length_cons, List.length_nil, List.filter_nil, List.map_nil, ↓List.getElem?_cons_zero, ↓List.getElem?_cons_succ, List.getElem?_cons_zero, List.getElem?_cons_succ, List.set_cons_zero, List.set_cons_succ, Option.join_some, Option.join_none, Option.map_some, List.all_cons, List.all_nil, Value.oneCell', reduceIte, reduceCtorEq, Nat.reduceEqDiff, Nat.reduceAdd, Nat.reduceMul, Nat.reduceLT, Nat.reduceBEq, Nat.reduceLeDiff, Nat.reduceSub, List.size_toArray]
      cases t2' : decide (a3 = (r : Int))
      · refine ITri.draw pokT ?_; simp -implicitDefEqProofs (disch := first | decide | exact of_eq_true (eq_true rfl) | omega | assumption) only [ga, gb, gc, t1, t2', Bool.true_and, Bool.false_and,  ↓vcD, vcE, evs, evP, evB, intsOf, fillC, Value.cells, pt, List.append_nil, List.nil_append, List.cons_append, List.length_cons, List.length_nil, List.filter_nil, List.map_nil, ↓List.getElem?_cons_zero, ↓List.getElem?_cons_succ, List.getElem?_cons_zero, List.getElem?_cons_succ, List.set_cons_zero, List.set_cons_succ, Option.join_some, Option.join_none, Option.map_some, List.all_cons, List.all_nil, Value.oneCell', reduceIte, reduceCtorEq, Nat.reduceEqDiff, Nat.reduceAdd, Nat.reduceMul, Nat.reduceLT, Nat.reduceBEq, Nat.reduceLeDiff, Nat.reduceSub, List.size_toArray]
      cases t3 : decide (t2 ≤ a1)
      · refine ITri.draw pokT ?_; simp -implicitDefEqProofs (disch := first | decide | exact of_eq_true (eq_true rfl) | omega | assumption) only [ga, gb, gc, t1, t2', t3, Bool.true_and, Bool.false_and,  ↓vcD, vcE, evs, evP, evB, intsOf, fillC, Value.cells, pt, List.append_nil, List.nil_append, List.cons_append, List.length_cons, List.length_nil, List.filter_nil, List.map_nil, ↓List.getElem?_cons_zero, ↓List.getElem?_cons_succ, List.getElem?_cons_zero, List.getElem?_cons_succ, List.set_cons_zero, List.set_cons_succ, Option.join_some, Option.join_none, Option.map_some, List.all_cons, List.all_nil, Value.oneCell', reduceIte, reduceCtorEq, Nat.reduceEqDiff, Nat.reduceAdd, Nat.reduceMul, Nat.reduceLT, Nat.reduceBEq, Nat.reduceLeDiff, Nat.reduceSub, List.size_toArray]
      cases t4 : decide (a1 < since) <;>
      (refine ITri.draw pokT ?_; simp -implicitDefEqProofs (disch := first | decide | exact of_eq_true (eq_true rfl) | omega | assumption) only [ga, gb, gc, t1, t2', t3, t4, Bool.true_and, Bool.false_and,  ↓vcD, vcE, evs, evP, evB, intsOf, fillC, Value.cells, pt, List.append_nil, List.nil_append, List.cons_append, List.length_cons, List.length_nil, List.filter_nil, List.map_nil, ↓List.getElem?_cons_zero, ↓List.getElem?_cons_succ, List.getElem?_cons_zero, List.getElem?_cons_succ, List.set_cons_zero, List.set_cons_succ, Option.join_some, Option.join_none, Option.map_some, List.all_cons, List.all_nil, Value.oneCell', reduceIte, reduceCtorEq, Nat.reduceEqDiff, Nat.reduceAdd, Nat.reduceMul, Nat.reduceLT, Nat.reduceBEq, Nat.reduceLeDiff, Nat.reduceSub, List.size_toArray])
    refine ITri.cond (v := clnP r t2 since (a1, a2, a3)) rfl (fun h3 => ?_) (fun h3 => ?_)
    · refine ITri.reg pokT ?_; simp -implicitDefEqProofs (disch := first | decide | exact of_eq_true (eq_true rfl) | omega | assumption) only [ ↓vcD, vcE, evs, evP, evB, intsOf, fillC, Value.cells, pt, List.append_nil, List.nil_append, List.cons_append, List.length_cons, List.length_nil, List.filter_nil, List.map_nil, ↓List.getElem?_cons_zero, ↓List.getElem?_cons_succ, List.getElem?_cons_zero, List.getElem?_cons_succ, List.set_cons_zero, List.set_cons_succ, Option.join_some, Option.join_none, Option.map_some, List.all_cons, List.all_nil, Value.oneCell', reduceIte, reduceCtorEq, Nat.reduceEqDiff, Nat.reduceAdd, Nat.reduceMul, Nat.reduceLT, Nat.reduceBEq, Nat.reduceLeDiff, Nat.reduceSub, List.size_toArray] -- r35
      refine ITri.reg pokT ?_; simp -implicitDefEqProofs (disch := first | decide | exact of_eq_true (eq_true rfl) | omega | assumption) only [ ↓vcD, vcE, evs, evP, evB, intsOf, fillC, Value.cells, pt, List.append_nil, List.nil_append, List.cons_append, List.length_cons, List.length_nil, List.filter_nil, List.map_nil, ↓List.getElem?_cons_zero, ↓List.getElem?_cons_succ, List.getElem?_cons_zero, List.getElem?_cons_succ, List.set_cons_zero, List.set_cons_succ, Option.join_some, Option.join_none, Option.map_some, List.all_cons, List.all_nil, Value.oneCell', reduceIte, reduceCtorEq, Nat.reduceEqDiff, Nat.reduceAdd, Nat.reduceMul, Nat.reduceLT, Nat.reduceBEq, Nat.reduceLeDiff, Nat.reduceSub, List.size_toArray] -- r33
      exact LoopQ.next (k + 1, since) ⟨by show k + 1 ≤ n; omega, .inl rfl⟩ (by show n - (k + 1) < n - k; omega) (Wk.sub ⟨rfl, rfl, rfl, rfl, rfl, rfl, rfl, trivial⟩)
    refine ITri.skip ?_; simp only [SeqQ_normal, BlkQ_normal]
    refine ITri.reg pokT ?_; simp -implicitDefEqProofs (disch := first | decide | exact of_eq_true (eq_true rfl) | omega | assumption) only [ ↓vcD, vcE, evs, evP, evB, intsOf, fillC, Value.cells, pt, List.append_nil, List.nil_append, List.cons_append, List.length_cons, List.length_nil, List.filter_nil, List.map_nil, ↓List.getElem?_cons_zero, ↓List.getElem?_cons_succ, List.getElem?_cons_zero, List.getElem?_cons_succ, List.set_cons_zero, List.set_cons_succ, Option.join_some, Option.join_none, Option.map_some, List.all_cons, List.all_nil, Value.oneCell', reduceIte, reduceCtorEq, Nat.reduceEqDiff, Nat.reduceAdd, Nat.reduceMul, Nat.reduceLT, Nat.reduceBEq, Nat.reduceLeDiff, Nat.reduceSub, List.size_toArray] -- r33
    refine LoopQ.next (k + 1, t2) ⟨by show k + 1 ≤ n; omega, ?_⟩ (by show n - (k + 1) < n - k; omega) (Wk.sub ⟨rfl, rfl, rfl, rfl, rfl, rfl, rfl, trivial⟩)
    rcases hy2 with e | ⟨e, e2⟩
    · exact .inl e
    · refine .inr ⟨e, ?_⟩
      rw [hstep, e2, ← e, h3]
      rfl
  refine ITri.exit ?_; try simp -implicitDefEqProofs (disch := first | decide | exact of_eq_true (eq_true rfl) | omega | assumption) only [ ↓vcD, vcE, evs, evP, evB, intsOf, fillC, Value.cells, pt, List.append_nil, List.nil_append, List.cons_append, List.length_cons, List.length_nil, List.filter_nil, List.map_nil, ↓List.getElem?_cons_zero, ↓List.getElem?_cons_succ, List.getElem?_cons_zero, List.getElem?_cons_succ, List.set_cons_zero, List.set_cons_succ, Option.join_some, Option.join_none, Option.map_some, List.all_cons, List.all_nil, Value.oneCell', reduceIte, reduceCtorEq, Nat.reduceEqDiff, Nat.reduceAdd, Nat.reduceMul, Nat.reduceLT, Nat.reduceBEq, Nat.reduceLeDiff, Nat.reduceSub, List.size_toArray]
  have hkn : k = l.length := by omega
  rw [hkn, List.take_length] at hy2
  have ht2 : 0 ≤ t2 ∧ t2 ≤ since := by rcases hy2 with e | ⟨e, _⟩ <;> omega
  have hTL : TL2 (a, b) (tnG l p q r t2) := by
    refine hsin t2 ht2.1 ht2.2 fun x hx e1 e2 e3 e4 => ?_
    rcases hy2 with e | ⟨e, e5⟩
    · omega
    · have := List.any_eq_false.1 e5 x hx
      unfold clnP at this
      rw [decide_eq_true e1, decide_eq_true e2, decide_eq_true (show t ≤ x.1 by omega), decide_eq_true e4] at this
      exact this rfl
  have he3 : tcE l p q r t2 = 0 := tc_mk (by omega) bl bt (by omega) bb hix hsr
  have hl3 : (rows eC l).length = n * 3 := by rw [rows_len, hl]
  have ht3 : takeC (rows eC l) 0 (n * 3) = some (rows eC l) := takeC_0 _ _ hl3
  obtain ⟨lc, ld⟩ := tnG_len l p q r t2
  obtain ⟨c1, d1, hR⟩ : ∃ c1 d1, tnG l p q r t2 = (c1, d1) := ⟨_, _, rfl⟩
  obtain ⟨lf, lg⟩ := tnG_len l2 p q r since
  obtain ⟨f1, g1, hR2⟩ : ∃ f1 g1, tnG l2 p q r since = (f1, g1) := ⟨_, _, rfl⟩
  rw [hR] at lc ld hTL
  rw [hR2] at lf lg hmor
  simp only at lc ld lf lg
  refine ITri.seq ?_
  refine ITri.draw pokT ?_; simp -implicitDefEqProofs (disch := first | decide | exact of_eq_true (eq_true rfl) | omega | assumption) only [ht3, hl3, rows_allT,  ↓vcD, vcE, evs, evP, evB, intsOf, fillC, Value.cells, pt, List.append_nil, List.nil_append, List.cons_append, List.length_cons, List.length_nil, List.filter_nil, List.map_nil, ↓List.getElem?_cons_zero, ↓List.getElem?_cons_succ, List.getElem?_cons_zero, List.getElem?_cons_succ, List.set_cons_zero, List.set_cons_succ, Option.join_some, Option.join_none, Option.map_some, List.all_cons, List.all_nil, Value.oneCell', reduceIte, reduceCtorEq, Nat.reduceEqDiff, Nat.reduceAdd, Nat.reduceMul, Nat.reduceLT, Nat.reduceBEq, Nat.reduceLeDiff, Nat.reduceSub, List.size_toArray] -- r36
  refine ⟨_, _, taint_f hl (by omega) (.inl rfl) he3 (sees0 rfl (of_decide_eq_true rfl)) (get_hq rfl rfl), ?_⟩
  simp -implicitDefEqProofs (disch := first | decide | exact of_eq_true (eq_true rfl) | omega | assumption) only [Int.toNat_natCast, hR,  ↓vcD, vcE, evs, evP, evB, intsOf, fillC, Value.cells, pt, List.append_nil, List.nil_append, List.cons_append, List.length_cons, List.length_nil, List.filter_nil, List.map_nil, ↓List.getElem?_cons_zero, ↓List.getElem?_cons_succ, List.getElem?_cons_zero, List.getElem?_cons_succ, List.set_cons_zero, List.set_cons_succ, Option.join_some, Option.join_none, Option.map_some, List.all_cons, List.all_nil, Value.oneCell', reduceIte, reduceCtorEq, Nat.reduceEqDiff, Nat.reduceAdd, Nat.reduceMul, Nat.reduceLT, Nat.reduceBEq, Nat.reduceLeDiff, Nat.reduceSub, List.size_toArray]
  refine ITri.seq ?_
  refine ITri.reg pokT ?_; simp -implicitDefEqProofs (disch := first | decide | exact of_eq_true (eq_true rfl) | omega | assumption) only [ ↓vcD, vcE, evs, evP, evB, intsOf, fillC, Value.cells, pt, List.append_nil, List.nil_append, List.cons_append, List.length_cons, List.length_nil, List.filter_nil, List.map_nil, ↓List.getElem?_cons_zero, ↓List.getElem?_cons_succ, List.getElem?_cons_zero, List.getElem?_cons_succ, List.set_cons_zero, List.set_cons_succ, Option.join_some, Option.join_none, Option.map_some, List.all_cons, List.all_nil, Value.oneCell', reduceIte, reduceCtorEq, Nat.reduceEqDiff, Nat.reduceAdd, Nat.reduceMul, Nat.reduceLT, Nat.reduceBEq, Nat.reduceLeDiff, Nat.reduceSub, List.size_toArray] -- r37
  refine ⟨_, _, taint_f hm (by omega) (.inl rfl) he2 (sees0 rfl (of_decide_eq_true rfl)) (get_hq rfl rfl), ?_⟩
  simp -implicitDefEqProofs (disch := first | decide | exact of_eq_true (eq_true rfl) | omega | assumption) only [Int.toNat_natCast, hR2,  ↓vcD, vcE, evs, evP, evB, intsOf, fillC, Value.cells, pt, List.append_nil, List.nil_append, List.cons_append, List.length_cons, List.length_nil, List.filter_nil, List.map_nil, ↓List.getElem?_cons_zero, ↓List.getElem?_cons_succ, List.getElem?_cons_zero, List.getElem?_cons_succ, List.set_cons_zero, List.set_cons_succ, Option.join_some, Option.join_none, Option.map_some, List.all_cons, List.all_nil, Value.oneCell', reduceIte, reduceCtorEq, Nat.reduceEqDiff, Nat.reduceAdd, Nat.reduceMul, Nat.reduceLT, Nat.reduceBEq, Nat.reduceLeDiff, Nat.reduceSub, List.size_toArray]
  refine ITri.seq ?_
  refine ITri.reg pokT ?_; simp -implicitDefEqProofs (disch := first | decide | exact of_eq_true (eq_true rfl) | omega | assumption) only [eq_self, decide_true,  ↓vcD, vcE, evs, evP, evB, intsOf, fillC, Value.cells, pt, List.append_nil, List.nil_append, List.cons_append, List.length_cons, List.length_nil, List.filter_nil, List.map_nil, ↓List.getElem?_cons_zero, ↓List.getElem?_cons_succ, List.getElem?_cons_zero, List.getElem?_cons_succ, List.set_cons_zero, List.set_cons_succ, Option.join_some, Option.join_none, Option.map_some, List.all_cons, List.all_nil, Value.oneCell', reduceIte, reduceCtorEq, Nat.reduceEqDiff, Nat.reduceAdd, Nat.reduceMul, Nat.reduceLT, Nat.reduceBEq, Nat.reduceLeDiff, Nat.reduceSub, List.size_toArray] -- r38
  refine ⟨_, _, earlier_f lc (by omega) hTL.1 (sees0 rfl (of_decide_eq_true rfl)) (Rd.hq rfl rfl) (Rd.hq rfl rfl), ?_⟩
  try simp -implicitDefEqProofs (disch := first | decide | exact of_eq_true (eq_true rfl) | omega | assumption) only [ ↓vcD, vcE, evs, evP, evB, intsOf, fillC, Value.cells, pt, List.append_nil, List.nil_append, List.cons_append, List.length_cons, List.length_nil, List.filter_nil, List.map_nil, ↓List.getElem?_cons_zero, ↓List.getElem?_cons_succ, List.getElem?_cons_zero, List.getElem?_cons_succ, List.set_cons_zero, List.set_cons_succ, Option.join_some, Option.join_none, Option.map_some, List.all_cons, List.all_nil, Value.oneCell', reduceIte, reduceCtorEq, Nat.reduceEqDiff, Nat.reduceAdd, Nat.reduceMul, Nat.reduceLT, Nat.reduceBEq, Nat.reduceLeDiff, Nat.reduceSub, List.size_toArray]
  refine ⟨_, _, earlier_f lf (by omega) hmor.1 (sees0 rfl (of_decide_eq_true rfl)) (Rd.hq rfl rfl) (Rd.hq rfl rfl), ?_⟩
  try simp -implicitDefEqProofs (disch := first | decide | exact of_eq_true (eq_true rfl) | omega | assumption) only [ ↓vcD, vcE, evs, evP, evB, intsOf, fillC, Value.cells, pt, List.append_nil, List.nil_append, List.cons_append, List.length_cons, List.length_nil, List.filter_nil, List.map_nil, ↓List.getElem?_cons_zero, ↓List.getElem?_cons_succ, List.getElem?_cons_zero, List.getElem?_cons_succ, List.set_cons_zero, List.set_cons_succ, Option.join_some, Option.join_none, Option.map_some, List.all_cons, List.all_nil, Value.oneCell', reduceIte, reduceCtorEq, Nat.reduceEqDiff, Nat.reduceAdd, Nat.reduceMul, Nat.reduceLT, Nat.reduceBEq, Nat.reduceLeDiff, Nat.reduceSub, List.size_toArray]
  refine ⟨_, _, earlier_f ld (by omega) hTL.2 (sees0 rfl (of_decide_eq_true rfl)) (Rd.hq rfl rfl) (Rd.hq rfl rfl), ?_⟩
  try simp -implicitDefEqProofs (disch := first | decide | exact of_eq_true (eq_true rfl) | omega | assumption) only [ ↓vcD, vcE, evs, evP, evB, intsOf, fillC, Value.cells, pt, List.append_nil, List.nil_append, List.cons_append, List.length_cons, List.length_nil, List.filter_nil, List.map_nil, ↓List.getElem?_cons_zero, ↓List.getElem?_cons_succ, List.getElem?_cons_zero, List.getElem?_cons_succ, List.set_cons_zero, List.set_cons_succ, Option.join_some, Option.join_none, Option.map_some, List.all_cons, List.all_nil, Value.oneCell', reduceIte, reduceCtorEq, Nat.reduceEqDiff, Nat.reduceAdd, Nat.reduceMul, Nat.reduceLT, Nat.reduceBEq, Nat.reduceLeDiff, Nat.reduceSub, List.size_toArray]
  refine ⟨_, _, earlier_f lg (by omega) hmor.2 (sees0 rfl (of_decide_eq_true rfl)) (Rd.hq rfl rfl) (Rd.hq rfl rfl), ?_⟩
  try simp -implicitDefEqProofs (disch := first | decide | exact of_eq_true (eq_true rfl) | omega | assumption) only [ ↓vcD, vcE, evs, evP, evB, intsOf, fillC, Value.cells, pt, List.append_nil, List.nil_append, List.cons_append, List.length_cons, List.length_nil, List.filter_nil, List.map_nil, ↓List.getElem?_cons_zero, ↓List.getElem?_cons_succ, List.getElem?_cons_zero, List.getElem?_cons_succ, List.set_cons_zero, List.set_cons_succ, Option.join_some, Option.join_none, Option.map_some, List.all_cons, List.all_nil, Value.oneCell', reduceIte, reduceCtorEq, Nat.reduceEqDiff, Nat.reduceAdd, Nat.reduceMul, Nat.reduceLT, Nat.reduceBEq, Nat.reduceLeDiff, Nat.reduceSub, List.size_toArray]
  refine ⟨_, _, knownT, ?_⟩
  try simp -implicitDefEqProofs (disch := first | decide | exact of_eq_true (eq_true rfl) | omega | assumption) only [ ↓vcD, vcE, evs, evP, evB, intsOf, fillC, Value.cells, pt, List.append_nil, List.nil_append, List.cons_append, List.length_cons, List.length_nil, List.filter_nil, List.map_nil, ↓List.getElem?_cons_zero, ↓List.getElem?_cons_succ, List.getElem?_cons_zero, List.getElem?_cons_succ, List.set_cons_zero, List.set_cons_succ, Option.join_some, Option.join_none, Option.map_some, List.all_cons, List.all_nil, Value.oneCell', reduceIte, reduceCtorEq, Nat.reduceEqDiff, Nat.reduceAdd, Nat.reduceMul, Nat.reduceLT, Nat.reduceBEq, Nat.reduceLeDiff, Nat.reduceSub, List.size_toArray]
  refine ITri.ret ?_; exact EndR.plain (by simp) (by rfl) (by rfl) (by rfl)
end Go.Proofs.Ytfmcdbcoljpomaa
