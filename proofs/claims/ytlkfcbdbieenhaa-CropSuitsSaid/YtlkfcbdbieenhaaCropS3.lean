/-
  Chapter 7, suits, by names: with a setting.
-/
import Derived.Test.YtlkfcbdbieenhaaCropS2
set_option linter.unusedSimpArgs false
set_option linter.unusedVariables false
namespace Go.Proofs.Ytlkfcbdbieenhaa
open Go.RowKit Go.Vm
set_option maxRecDepth 100000
/- boule/boulelaw07.CropSuits · slots 348 · names 0:x 1:by 2:x 3:by 5:a 6:e 7:l 8:f 9:tried 10:less 11:i 12:b 13:g 14:of 15:i 16:_ 17:g 18:i 19:others 20:_ 21:g · results [4] -/
def ir11_r0 : IC := .reg [⟨some 2, none, false, .box (.t 0)⟩,
  ⟨some 4, none, false, .mv (.k (.bool false))⟩] (some [1, 2])
def ir11_r1 : IC := .reg [⟨some 22, none, false, .fad 0 (.t 2)⟩,
  ⟨some 23, none, false, .ldc (.t 22)⟩,
  ⟨some 24, none, false, .len (.t 23)⟩,
  ⟨some 25, none, false, .cmp .gtr (.t 24) (.k (.int .i64 12))⟩] (some [1, 2, 25])
def ir11_r2 : IC := .reg [⟨some 26, none, false, .call (.f 14) []⟩,
  ⟨some 4, none, false, .mv (.t 26)⟩] (some [4])
def ir11_1 : IC := .seq ir11_r2 .ret
def ir11_2 : IC := .cond (.t 25) ir11_1 .skip
def ir11_3 : IC := .seq ir11_r1 ir11_2
def ir11_r3 : IC := .draw [(⟨some 28, none, false, .bsl 4 0 [] []⟩, false, 0, 1),
  (⟨some 29, none, false, .fad 0 (.t 2)⟩, false, 0, 0),
  (⟨some 30, none, false, .ldc (.t 29)⟩, false, 2, 1),
  (⟨some 31, none, false, .app 4 32 (.t 28) (.t 30)⟩, false, 7, 1),
  (⟨some 32, none, false, .fad 1 (.t 2)⟩, false, 0, 0),
  (⟨some 33, none, false, .ldc (.t 32)⟩, false, 16, 8),
  (⟨some 34, none, false, .call (.f 40) [(.t 31), (.t 33)]⟩, false, 63, 1),
  (⟨some 27, none, false, .mv (.t 34)⟩, false, 127, 0),
  (⟨some 35, none, false, .ext (.t 27) 0⟩, false, 255, 0),
  (⟨some 36, none, false, .ext (.t 27) 1⟩, false, 255, 0),
  (⟨some 5, none, false, .alloc [(.int .i64 0), (.int .i64 0)]⟩, false, 0, 64),
  (⟨none, none, false, .st 2 (.t 5) (.t 35)⟩, true, 1535, 1),
  (⟨some 6, none, false, .mv (.t 36)⟩, false, 4095, 0)] (some [1, 2, 5, 6])
def ir11_r4 : IC := .draw [(⟨some 38, none, false, .bsl 4 0 [] []⟩, false, 0, 1),
  (⟨some 39, none, false, .fad 0 (.t 2)⟩, false, 0, 0),
  (⟨some 40, none, false, .ldc (.t 39)⟩, false, 2, 1),
  (⟨some 41, none, false, .app 4 32 (.t 38) (.t 40)⟩, false, 7, 1),
  (⟨some 42, none, false, .fad 1 (.t 2)⟩, false, 0, 0),
  (⟨some 43, none, false, .ldc (.t 42)⟩, false, 16, 8),
  (⟨some 44, none, false, .call (.f 41) [(.t 41), (.t 43)]⟩, true, 63, 1),
  (⟨some 37, none, false, .mv (.t 44)⟩, false, 127, 0),
  (⟨some 45, none, false, .ext (.t 37) 0⟩, false, 255, 0),
  (⟨some 46, none, false, .ext (.t 37) 1⟩, false, 255, 0),
  (⟨some 7, none, false, .mv (.t 45)⟩, false, 511, 0),
  (⟨some 8, none, false, .mv (.t 46)⟩, false, 2047, 0)] (some [1, 2, 5, 6, 7, 8])
def ir11_r5 : IC := .reg [⟨some 47, none, false, .fad 0 (.t 2)⟩,
  ⟨some 48, none, false, .ldc (.t 47)⟩,
  ⟨some 49, none, false, .fad 1 (.t 2)⟩,
  ⟨some 50, none, false, .ldc (.t 49)⟩,
  ⟨some 51, none, false, .fad 2 (.t 2)⟩,
  ⟨some 52, none, false, .lda 2 (.t 51)⟩,
  ⟨some 53, none, false, .call (.f 46) [(.t 48), (.t 50), (.t 52)]⟩,
  ⟨some 9, none, false, .mv (.t 53)⟩] (some [1, 2, 5, 6, 7, 8, 9])
def ir11_r6 : IC := .reg [⟨some 54, none, false, .mv (.t 6)⟩] (some [1, 2, 5, 6, 7, 8, 9, 54])
def ir11_r7 : IC := .reg [⟨some 56, none, false, .cmp .eql (.t 54) (.k (.int .i64 0))⟩,
  ⟨some 55, none, false, .mv (.t 56)⟩] (some [1, 2, 5, 6, 7, 8, 9, 54, 55])
def ir11_r8 : IC := .reg [⟨some 57, none, false, .mv (.t 8)⟩,
  ⟨some 58, none, false, .cmp .neq (.t 57) (.k (.int .i64 73))⟩,
  ⟨some 59, none, false, .mv (.t 58)⟩,
  ⟨some 60, some (59, false), false, .mv (.t 7)⟩,
  ⟨some 61, some (59, false), false, .len (.t 60)⟩,
  ⟨some 62, some (59, false), false, .cmp .neq (.t 61) (.k (.int .i64 0))⟩,
  ⟨some 63, none, false, .pick (.t 59) (.k (.bool true)) (.t 62)⟩,
  ⟨some 64, none, false, .mv (.t 63)⟩,
  ⟨some 65, some (64, false), false, .fad 0 (.t 2)⟩,
  ⟨some 66, some (64, false), false, .ldc (.t 65)⟩,
  ⟨some 67, some (64, false), false, .fad 1 (.t 2)⟩,
  ⟨some 68, some (64, false), false, .ldc (.t 67)⟩,
  ⟨some 69, some (64, false), false, .lda 2 (.t 5)⟩,
  ⟨some 70, some (64, false), false, .call (.f 46) [(.t 66), (.t 68), (.t 69)]⟩,
  ⟨some 71, some (64, false), false, .not (.t 70)⟩,
  ⟨some 72, none, false, .pick (.t 64) (.k (.bool true)) (.t 71)⟩,
  ⟨some 73, none, false, .mv (.t 72)⟩,
  ⟨some 74, some (73, false), false, .mv (.t 9)⟩,
  ⟨some 75, some (73, false), false, .mv (.t 74)⟩,
  ⟨some 76, some (75, true), false, .fad 2 (.t 2)⟩,
  ⟨some 77, some (75, true), false, .fad 0 (.t 76)⟩,
  ⟨some 78, some (75, true), false, .ldc (.t 77)⟩,
  ⟨some 79, some (75, true), false, .fad 0 (.t 5)⟩,
  ⟨some 80, some (75, true), false, .ldc (.t 79)⟩,
  ⟨some 81, some (75, true), false, .cmp .lss (.t 78) (.t 80)⟩,
  ⟨some 82, some (75, true), false, .mv (.t 81)⟩,
  ⟨some 83, some (82, false), false, .fad 2 (.t 2)⟩,
  ⟨some 84, some (82, false), false, .fad 0 (.t 83)⟩,
  ⟨some 85, some (82, false), false, .ldc (.t 84)⟩,
  ⟨some 86, some (82, false), false, .fad 0 (.t 5)⟩,
  ⟨some 87, some (82, false), false, .ldc (.t 86)⟩,
  ⟨some 88, some (82, false), false, .cmp .eql (.t 85) (.t 87)⟩,
  ⟨some 89, some (82, false), false, .mv (.t 88)⟩,
  ⟨some 90, some (89, true), false, .fad 2 (.t 2)⟩,
  ⟨some 91, some (89, true), false, .fad 1 (.t 90)⟩,
  ⟨some 92, some (89, true), false, .ldc (.t 91)⟩,
  ⟨some 93, some (89, true), false, .fad 1 (.t 5)⟩,
  ⟨some 94, some (89, true), false, .ldc (.t 93)⟩,
  ⟨some 95, some (89, true), false, .cmp .lss (.t 92) (.t 94)⟩,
  ⟨some 96, some (82, false), false, .pick (.t 89) (.t 95) (.k (.bool false))⟩,
  ⟨some 97, some (75, true), false, .pick (.t 82) (.k (.bool true)) (.t 96)⟩,
  ⟨some 98, some (73, false), false, .pick (.t 75) (.t 97) (.k (.bool false))⟩,
  ⟨some 99, none, false, .pick (.t 73) (.k (.bool true)) (.t 98)⟩] (some [1, 2, 5, 99])
def ir11_r9 : IC := .reg [⟨some 4, none, false, .mv (.k (.bool false))⟩] (some [4])
def ir11_4 : IC := .seq ir11_r9 .ret
def ir11_5 : IC := .cond (.t 99) ir11_4 .skip
def ir11_6 : IC := .seq ir11_r8 ir11_5
def ir11_r10 : IC := .reg [⟨some 100, none, false, .bsl 4 0 [] []⟩,
  ⟨some 101, none, false, .fad 0 (.t 2)⟩,
  ⟨some 102, none, false, .ldc (.t 101)⟩,
  ⟨some 103, none, false, .app 4 32 (.t 100) (.t 102)⟩,
  ⟨some 10, none, false, .mv (.t 103)⟩] (some [1, 2, 5, 10])
def ir11_r11 : IC := .reg [⟨some 11, none, false, .mv (.k (.int .i64 0))⟩] (some [1, 2, 5, 10, 11])
def ir11_r12 : IC := .reg [⟨some 104, none, false, .mv (.t 11)⟩,
  ⟨some 105, none, false, .mv (.t 10)⟩,
  ⟨some 106, none, false, .len (.t 105)⟩,
  ⟨some 107, none, false, .cmp .lss (.t 104) (.t 106)⟩] (some [1, 2, 5, 10, 11, 107])
def ir11_7 : IC := .cond (.t 107) .skip (.exit 1)
def ir11_8 : IC := .seq ir11_r12 ir11_7
def ir11_r14 : IC := .draw [(⟨some 110, none, false, .mv (.t 1)⟩, false, 0, 0),
  (⟨some 111, none, false, .bits .and (.t 110) (.k (.int .u8 1))⟩, false, 1, 0),
  (⟨some 112, none, false, .cmp .eql (.t 111) (.k (.int .u8 1))⟩, false, 3, 0),
  (⟨some 113, none, false, .mv (.t 112)⟩, false, 7, 0),
  (⟨some 114, some (113, true), false, .mv (.t 10)⟩, false, 15, 0),
  (⟨some 115, some (113, true), false, .mv (.t 11)⟩, false, 15, 0),
  (⟨some 116, some (113, true), false, .iad 4 (.t 114) (.t 115)⟩, false, 63, 0),
  (⟨some 117, some (113, true), false, .fad 0 (.t 116)⟩, false, 127, 0),
  (⟨some 118, some (113, true), false, .fad 0 (.t 117)⟩, false, 255, 0),
  (⟨some 119, some (113, true), false, .ldc (.t 118)⟩, false, 511, 1),
  (⟨some 120, some (113, true), false, .mv (.t 10)⟩, false, 15, 0),
  (⟨some 121, some (113, true), false, .mv (.t 11)⟩, false, 15, 0),
  (⟨some 122, some (113, true), false, .iad 4 (.t 120) (.t 121)⟩, false, 3087, 0),
  (⟨some 123, some (113, true), false, .fad 0 (.t 122)⟩, false, 7183, 0),
  (⟨some 124, some (113, true), false, .fad 1 (.t 123)⟩, false, 15375, 0),
  (⟨some 125, some (113, true), false, .ldc (.t 124)⟩, false, 31759, 512),
  (⟨some 126, some (113, true), false, .cmp .lss (.t 119) (.t 125)⟩, false, 65535, 0),
  (⟨some 127, none, false, .pick (.t 113) (.t 126) (.k (.bool false))⟩, false, 131071, 0)] (some [1, 2, 5, 10, 11, 127])
def ir11_r15 : IC := .reg [⟨some 128, none, false, .mv (.t 10)⟩,
  ⟨some 129, none, false, .mv (.t 11)⟩,
  ⟨some 130, none, false, .iad 4 (.t 128) (.t 129)⟩,
  ⟨some 131, none, false, .fad 0 (.t 130)⟩,
  ⟨some 132, none, false, .fad 0 (.t 131)⟩,
  ⟨some 133, none, false, .ldc (.t 132)⟩,
  ⟨some 134, none, false, .ar .add (.t 133) (.k (.int .i64 1))⟩,
  ⟨some 135, none, false, .iad 4 (.t 128) (.t 129)⟩,
  ⟨some 136, none, false, .fad 0 (.t 135)⟩,
  ⟨some 137, none, false, .fad 0 (.t 136)⟩,
  ⟨none, none, false, .st 1 (.t 137) (.t 134)⟩] (some [1, 2, 5, 10, 11])
def ir11_9 : IC := .cond (.t 127) ir11_r15 .skip
def ir11_10 : IC := .seq ir11_r14 ir11_9
def ir11_r16 : IC := .draw [(⟨some 138, none, false, .mv (.t 1)⟩, false, 0, 0),
  (⟨some 139, none, false, .bits .and (.t 138) (.k (.int .u8 2))⟩, false, 1, 0),
  (⟨some 140, none, false, .cmp .eql (.t 139) (.k (.int .u8 2))⟩, false, 3, 0),
  (⟨some 141, none, false, .mv (.t 140)⟩, false, 7, 0),
  (⟨some 142, some (141, true), false, .mv (.t 10)⟩, false, 15, 0),
  (⟨some 143, some (141, true), false, .mv (.t 11)⟩, false, 15, 0),
  (⟨some 144, some (141, true), false, .iad 4 (.t 142) (.t 143)⟩, false, 63, 0),
  (⟨some 145, some (141, true), false, .fad 2 (.t 144)⟩, false, 127, 0),
  (⟨some 146, some (141, true), false, .fad 0 (.t 145)⟩, false, 255, 0),
  (⟨some 147, some (141, true), false, .ldc (.t 146)⟩, false, 511, 1),
  (⟨some 148, some (141, true), false, .mv (.t 10)⟩, false, 15, 0),
  (⟨some 149, some (141, true), false, .mv (.t 11)⟩, false, 15, 0),
  (⟨some 150, some (141, true), false, .iad 4 (.t 148) (.t 149)⟩, false, 3087, 0),
  (⟨some 151, some (141, true), false, .fad 2 (.t 150)⟩, false, 7183, 0),
  (⟨some 152, some (141, true), false, .fad 1 (.t 151)⟩, false, 15375, 0),
  (⟨some 153, some (141, true), false, .ldc (.t 152)⟩, false, 31759, 512),
  (⟨some 154, some (141, true), false, .cmp .lss (.t 147) (.t 153)⟩, false, 65535, 0),
  (⟨some 155, none, false, .pick (.t 141) (.t 154) (.k (.bool false))⟩, false, 131071, 0)] (some [1, 2, 5, 10, 11, 155])
def ir11_r17 : IC := .reg [⟨some 156, none, false, .mv (.t 10)⟩,
  ⟨some 157, none, false, .mv (.t 11)⟩,
  ⟨some 158, none, false, .iad 4 (.t 156) (.t 157)⟩,
  ⟨some 159, none, false, .fad 2 (.t 158)⟩,
  ⟨some 160, none, false, .fad 1 (.t 159)⟩,
  ⟨some 161, none, false, .ldc (.t 160)⟩,
  ⟨some 162, none, false, .ar .sub (.t 161) (.k (.int .i64 1))⟩,
  ⟨some 163, none, false, .iad 4 (.t 156) (.t 157)⟩,
  ⟨some 164, none, false, .fad 2 (.t 163)⟩,
  ⟨some 165, none, false, .fad 1 (.t 164)⟩,
  ⟨none, none, false, .st 1 (.t 165) (.t 162)⟩] (some [1, 2, 5, 10, 11])
def ir11_11 : IC := .cond (.t 155) ir11_r17 .skip
def ir11_12 : IC := .seq ir11_r16 ir11_11
def ir11_13 : IC := .seq ir11_10 ir11_12
def ir11_14 : IC := .block 2 ir11_13
def ir11_r13 : IC := .reg [⟨some 108, none, false, .mv (.t 11)⟩,
  ⟨some 109, none, false, .ar .add (.t 108) (.k (.int .i64 1))⟩,
  ⟨some 11, none, false, .mv (.t 109)⟩] (some [1, 2, 5, 10, 11])
def ir11_15 : IC := .seq ir11_14 ir11_r13
def ir11_16 : IC := .seq ir11_8 ir11_15
def ir11_17 : IC := .loop ir11_16
def ir11_18 : IC := .block 1 ir11_17
def ir11_19 : IC := .seq ir11_r11 ir11_18
def ir11_r18 : IC := .draw [(⟨some 167, none, false, .bsl 4 0 [] []⟩, false, 0, 1),
  (⟨some 168, none, false, .mv (.t 10)⟩, false, 0, 0),
  (⟨some 169, none, false, .app 4 32 (.t 167) (.t 168)⟩, false, 3, 1),
  (⟨some 170, none, false, .fad 1 (.t 2)⟩, false, 0, 0),
  (⟨some 171, none, false, .ldc (.t 170)⟩, false, 8, 4),
  (⟨some 172, none, false, .mv (.t 1)⟩, false, 0, 0),
  (⟨some 173, none, false, .shf .shr (.t 172) (.k (.int .u64 4))⟩, false, 32, 0),
  (⟨some 174, none, false, .conv .i64 (.t 173)⟩, false, 96, 0),
  (⟨some 175, none, false, .ar .add (.t 171) (.t 174)⟩, false, 248, 0),
  (⟨some 176, none, false, .mm true [(.t 175), (.k (.int .i64 36000))]⟩, false, 504, 0),
  (⟨some 177, none, false, .call (.f 40) [(.t 169), (.t 176)]⟩, false, 1023, 1),
  (⟨some 166, none, false, .mv (.t 177)⟩, false, 2047, 0),
  (⟨some 178, none, false, .ext (.t 166) 0⟩, false, 4095, 0),
  (⟨some 179, none, false, .ext (.t 166) 1⟩, false, 4095, 0),
  (⟨some 12, none, false, .alloc [(.int .i64 0), (.int .i64 0)]⟩, false, 0, 1024),
  (⟨none, none, false, .st 2 (.t 12) (.t 178)⟩, true, 24575, 1),
  (⟨some 13, none, false, .mv (.t 179)⟩, false, 65535, 0)] (some [2, 5, 10, 12, 13])
def ir11_r19 : IC := .reg [⟨some 180, none, false, .mv (.t 13)⟩,
  ⟨some 181, none, false, .cmp .eql (.t 180) (.k (.int .i64 0))⟩,
  ⟨some 182, none, false, .mv (.t 181)⟩,
  ⟨some 183, some (182, true), false, .mv (.t 10)⟩,
  ⟨some 184, some (182, true), false, .fad 1 (.t 2)⟩,
  ⟨some 185, some (182, true), false, .ldc (.t 184)⟩,
  ⟨some 186, some (182, true), false, .lda 2 (.t 5)⟩,
  ⟨some 187, some (182, true), false, .call (.f 46) [(.t 183), (.t 185), (.t 186)]⟩,
  ⟨some 188, none, false, .pick (.t 182) (.t 187) (.k (.bool false))⟩,
  ⟨some 189, none, false, .mv (.t 188)⟩,
  ⟨some 190, some (189, true), false, .fad 0 (.t 12)⟩,
  ⟨some 191, some (189, true), false, .ldc (.t 190)⟩,
  ⟨some 192, some (189, true), false, .fad 0 (.t 5)⟩,
  ⟨some 193, some (189, true), false, .ldc (.t 192)⟩,
  ⟨some 194, some (189, true), false, .cmp .lss (.t 191) (.t 193)⟩,
  ⟨some 195, some (189, true), false, .mv (.t 194)⟩,
  ⟨some 196, some (195, false), false, .fad 0 (.t 12)⟩,
  ⟨some 197, some (195, false), false, .ldc (.t 196)⟩,
  ⟨some 198, some (195, false), false, .fad 0 (.t 5)⟩,
  ⟨some 199, some (195, false), false, .ldc (.t 198)⟩,
  ⟨some 200, some (195, false), false, .cmp .eql (.t 197) (.t 199)⟩,
  ⟨some 201, some (195, false), false, .mv (.t 200)⟩,
  ⟨some 202, some (201, true), false, .fad 1 (.t 12)⟩,
  ⟨some 203, some (201, true), false, .ldc (.t 202)⟩,
  ⟨some 204, some (201, true), false, .fad 1 (.t 5)⟩,
  ⟨some 205, some (201, true), false, .ldc (.t 204)⟩,
  ⟨some 206, some (201, true), false, .cmp .leq (.t 203) (.t 205)⟩,
  ⟨some 207, some (195, false), false, .pick (.t 201) (.t 206) (.k (.bool false))⟩,
  ⟨some 208, some (189, true), false, .pick (.t 195) (.k (.bool true)) (.t 207)⟩,
  ⟨some 209, none, false, .pick (.t 189) (.t 208) (.k (.bool false))⟩,
  ⟨some 210, none, false, .mv (.t 209)⟩,
  ⟨some 211, some (210, true), false, .call (.f 14) []⟩,
  ⟨some 212, none, false, .pick (.t 210) (.t 211) (.k (.bool false))⟩,
  ⟨some 4, none, false, .mv (.t 212)⟩] (some [4])
def ir11_20 : IC := .seq ir11_r19 .ret
def ir11_21 : IC := .seq ir11_r18 ir11_20
def ir11_22 : IC := .seq ir11_19 ir11_21
def ir11_23 : IC := .seq ir11_r10 ir11_22
def ir11_24 : IC := .seq ir11_6 ir11_23
def ir11_r20 : IC := .reg [⟨some 214, none, false, .cmp .eql (.t 54) (.k (.int .i64 72))⟩,
  ⟨some 213, none, false, .mv (.t 214)⟩] (some [2, 5, 6, 7, 8, 9, 213])
def ir11_r21 : IC := .reg [⟨some 215, none, false, .mv (.t 8)⟩,
  ⟨some 216, none, false, .cmp .neq (.t 215) (.k (.int .i64 0))⟩,
  ⟨some 217, none, false, .mv (.t 216)⟩,
  ⟨some 218, some (217, false), false, .mv (.t 7)⟩,
  ⟨some 219, some (217, false), false, .len (.t 218)⟩,
  ⟨some 220, some (217, false), false, .cmp .eql (.t 219) (.k (.int .i64 0))⟩,
  ⟨some 221, none, false, .pick (.t 217) (.k (.bool true)) (.t 220)⟩,
  ⟨some 222, none, false, .mv (.t 221)⟩,
  ⟨some 223, some (222, false), false, .mv (.t 7)⟩,
  ⟨some 224, some (222, false), false, .len (.t 223)⟩,
  ⟨some 225, some (222, false), false, .cmp .gtr (.t 224) (.k (.int .i64 4))⟩,
  ⟨some 226, none, false, .pick (.t 222) (.k (.bool true)) (.t 225)⟩,
  ⟨some 227, none, false, .mv (.t 226)⟩,
  ⟨some 228, some (227, false), false, .lda 2 (.t 5)⟩,
  ⟨some 229, some (227, false), false, .bld [(.int .i64 0), (.int .i64 0)] []⟩,
  ⟨some 230, some (227, false), false, .eqs true [false, false] (.t 228) (.t 229)⟩,
  ⟨some 231, none, false, .pick (.t 227) (.k (.bool true)) (.t 230)⟩,
  ⟨some 232, none, false, .mv (.t 231)⟩,
  ⟨some 233, some (232, false), false, .mv (.t 9)⟩,
  ⟨some 234, none, false, .pick (.t 232) (.k (.bool true)) (.t 233)⟩] (some [2, 7, 234])
def ir11_r22 : IC := .reg [⟨some 4, none, false, .mv (.k (.bool false))⟩] (some [4])
def ir11_25 : IC := .seq ir11_r22 .ret
def ir11_26 : IC := .cond (.t 234) ir11_25 .skip
def ir11_27 : IC := .seq ir11_r21 ir11_26
def ir11_r23 : IC := .reg [⟨some 235, none, false, .bsl 4 0 [] []⟩,
  ⟨some 14, none, false, .mv (.t 235)⟩] (some [2, 7, 14])
def ir11_r24 : IC := .reg [⟨some 15, none, false, .mv (.k (.int .i64 0))⟩] (some [2, 7, 14, 15])
def ir11_r25 : IC := .reg [⟨some 236, none, false, .mv (.t 15)⟩,
  ⟨some 237, none, false, .mv (.t 7)⟩,
  ⟨some 238, none, false, .len (.t 237)⟩,
  ⟨some 239, none, false, .cmp .lss (.t 236) (.t 238)⟩] (some [2, 7, 14, 15, 239])
def ir11_28 : IC := .cond (.t 239) .skip (.exit 3)
def ir11_29 : IC := .seq ir11_r25 ir11_28
def ir11_r27 : IC := .draw [(⟨some 242, none, false, .mv (.t 7)⟩, false, 0, 0),
  (⟨some 243, none, false, .mv (.t 15)⟩, false, 0, 0),
  (⟨some 244, none, false, .iad 1 (.t 242) (.t 243)⟩, false, 3, 0),
  (⟨some 245, none, false, .ldc (.t 244)⟩, true, 7, 1),
  (⟨some 246, none, false, .cmp .lss (.t 245) (.k (.int .i64 0))⟩, false, 15, 0),
  (⟨some 247, none, false, .mv (.t 246)⟩, false, 31, 0),
  (⟨some 248, some (247, false), false, .mv (.t 7)⟩, false, 63, 0),
  (⟨some 249, some (247, false), false, .mv (.t 15)⟩, false, 63, 0),
  (⟨some 250, some (247, false), false, .iad 1 (.t 248) (.t 249)⟩, false, 255, 0),
  (⟨some 251, some (247, false), false, .ldc (.t 250)⟩, false, 511, 1),
  (⟨some 252, some (247, false), false, .fad 0 (.t 2)⟩, false, 63, 0),
  (⟨some 253, some (247, false), false, .ldc (.t 252)⟩, false, 1087, 512),
  (⟨some 254, some (247, false), false, .len (.t 253)⟩, false, 3135, 512),
  (⟨some 255, some (247, false), false, .cmp .geq (.t 251) (.t 254)⟩, false, 8191, 0),
  (⟨some 256, none, false, .pick (.t 247) (.k (.bool true)) (.t 255)⟩, false, 16383, 0),
  (⟨some 257, none, false, .mv (.t 256)⟩, false, 32767, 0),
  (⟨some 258, some (257, false), false, .mv (.t 15)⟩, false, 65535, 0),
  (⟨some 259, some (257, false), false, .cmp .gtr (.t 258) (.k (.int .i64 0))⟩, false, 131071, 0),
  (⟨some 260, some (257, false), false, .mv (.t 259)⟩, false, 262143, 0),
  (⟨some 261, some (260, true), false, .mv (.t 7)⟩, false, 524287, 0),
  (⟨some 262, some (260, true), false, .mv (.t 15)⟩, false, 524287, 0),
  (⟨some 263, some (260, true), false, .ar .sub (.t 262) (.k (.int .i64 1))⟩, false, 1572863, 0),
  (⟨some 264, some (260, true), false, .iad 1 (.t 261) (.t 263)⟩, false, 4194303, 0),
  (⟨some 265, some (260, true), false, .ldc (.t 264)⟩, false, 8388607, 1),
  (⟨some 266, some (260, true), false, .mv (.t 7)⟩, false, 524287, 0),
  (⟨some 267, some (260, true), false, .mv (.t 15)⟩, false, 524287, 0),
  (⟨some 268, some (260, true), false, .iad 1 (.t 266) (.t 267)⟩, false, 50855935, 0),
  (⟨some 269, some (260, true), false, .ldc (.t 268)⟩, false, 117964799, 8388608),
  (⟨some 270, some (260, true), false, .cmp .geq (.t 265) (.t 269)⟩, false, 268435455, 0),
  (⟨some 271, some (257, false), false, .pick (.t 260) (.t 270) (.k (.bool false))⟩, false, 536870911, 0),
  (⟨some 272, none, false, .pick (.t 257) (.k (.bool true)) (.t 271)⟩, false, 1073741823, 0)] (some [2, 7, 14, 15, 272])
def ir11_r28 : IC := .reg [⟨some 4, none, false, .mv (.k (.bool false))⟩] (some [4])
def ir11_30 : IC := .seq ir11_r28 .ret
def ir11_31 : IC := .cond (.t 272) ir11_30 .skip
def ir11_32 : IC := .seq ir11_r27 ir11_31
def ir11_r29 : IC := .draw [(⟨some 273, none, false, .mv (.t 14)⟩, false, 0, 0),
  (⟨some 274, none, false, .fad 0 (.t 2)⟩, false, 0, 0),
  (⟨some 275, none, false, .ldc (.t 274)⟩, false, 2, 1),
  (⟨some 276, none, false, .mv (.t 7)⟩, false, 0, 0),
  (⟨some 277, none, false, .mv (.t 15)⟩, false, 0, 0),
  (⟨some 278, none, false, .iad 1 (.t 276) (.t 277)⟩, false, 24, 0),
  (⟨some 279, none, false, .ldc (.t 278)⟩, false, 56, 3),
  (⟨some 280, none, false, .iad 4 (.t 275) (.t 279)⟩, false, 126, 0),
  (⟨some 281, none, false, .lda 4 (.t 280)⟩, true, 254, 1),
  (⟨some 282, none, false, .bsl 4 1 [(.int .i64 0), (.int .i64 0), (.int .i64 0), (.int .i64 0)] [(0, (.t 281))]⟩, true, 510, 1),
  (⟨some 283, none, false, .app 4 32 (.t 273) (.t 282)⟩, true, 1023, 1),
  (⟨some 14, none, false, .mv (.t 283)⟩, false, 2047, 0)] (some [2, 7, 14, 15])
def ir11_33 : IC := .seq ir11_32 ir11_r29
def ir11_34 : IC := .block 4 ir11_33
def ir11_r26 : IC := .reg [⟨some 240, none, false, .mv (.t 15)⟩,
  ⟨some 241, none, false, .ar .add (.t 240) (.k (.int .i64 1))⟩,
  ⟨some 15, none, false, .mv (.t 241)⟩] (some [2, 7, 14, 15])
def ir11_35 : IC := .seq ir11_34 ir11_r26
def ir11_36 : IC := .seq ir11_29 ir11_35
def ir11_37 : IC := .loop ir11_36
def ir11_38 : IC := .block 3 ir11_37
def ir11_39 : IC := .seq ir11_r24 ir11_38
def ir11_r30 : IC := .reg [⟨some 284, none, false, .mv (.t 14)⟩,
  ⟨some 285, none, false, .fad 1 (.t 2)⟩,
  ⟨some 286, none, false, .ldc (.t 285)⟩,
  ⟨some 287, none, false, .fad 2 (.t 2)⟩,
  ⟨some 288, none, false, .lda 2 (.t 287)⟩,
  ⟨some 289, none, false, .call (.f 46) [(.t 284), (.t 286), (.t 288)]⟩] (some [2, 14, 289])
def ir11_r31 : IC := .reg [⟨some 4, none, false, .mv (.k (.bool false))⟩] (some [4])
def ir11_40 : IC := .seq ir11_r31 .ret
def ir11_41 : IC := .cond (.t 289) ir11_40 .skip
def ir11_42 : IC := .seq ir11_r30 ir11_41
def ir11_r32 : IC := .draw [(⟨some 291, none, false, .bsl 4 0 [] []⟩, false, 0, 1),
  (⟨some 292, none, false, .mv (.t 14)⟩, false, 0, 0),
  (⟨some 293, none, false, .app 4 32 (.t 291) (.t 292)⟩, false, 3, 1),
  (⟨some 294, none, false, .fad 1 (.t 2)⟩, false, 0, 0),
  (⟨some 295, none, false, .ldc (.t 294)⟩, false, 8, 4),
  (⟨some 296, none, false, .call (.f 40) [(.t 293), (.t 295)]⟩, false, 31, 1),
  (⟨some 290, none, false, .mv (.t 296)⟩, false, 63, 0),
  (⟨some 297, none, false, .ext (.t 290) 0⟩, false, 127, 0),
  (⟨some 298, none, false, .ext (.t 290) 1⟩, false, 127, 0),
  (⟨some 16, none, false, .alloc [(.int .i64 0), (.int .i64 0)]⟩, false, 0, 32),
  (⟨none, none, false, .st 2 (.t 16) (.t 297)⟩, true, 767, 1),
  (⟨some 17, none, false, .mv (.t 298)⟩, false, 2047, 0)] (some [2, 14, 17])
def ir11_r33 : IC := .reg [⟨some 299, none, false, .mv (.t 17)⟩,
  ⟨some 300, none, false, .cmp .neq (.t 299) (.k (.int .i64 72))⟩] (some [2, 14, 300])
def ir11_r34 : IC := .reg [⟨some 4, none, false, .mv (.k (.bool false))⟩] (some [4])
def ir11_43 : IC := .seq ir11_r34 .ret
def ir11_44 : IC := .cond (.t 300) ir11_43 .skip
def ir11_45 : IC := .seq ir11_r33 ir11_44
def ir11_46 : IC := .seq ir11_r32 ir11_45
def ir11_r35 : IC := .reg [⟨some 18, none, false, .mv (.k (.int .i64 0))⟩] (some [2, 14, 18])
def ir11_r36 : IC := .reg [⟨some 301, none, false, .mv (.t 18)⟩,
  ⟨some 302, none, false, .mv (.t 14)⟩,
  ⟨some 303, none, false, .len (.t 302)⟩,
  ⟨some 304, none, false, .cmp .lss (.t 301) (.t 303)⟩,
  ⟨some 305, none, false, .mv (.t 304)⟩,
  ⟨some 306, some (305, true), false, .mv (.t 14)⟩,
  ⟨some 307, some (305, true), false, .len (.t 306)⟩,
  ⟨some 308, some (305, true), false, .cmp .gtr (.t 307) (.k (.int .i64 1))⟩,
  ⟨some 309, none, false, .pick (.t 305) (.t 308) (.k (.bool false))⟩] (some [2, 14, 18, 309])
def ir11_47 : IC := .cond (.t 309) .skip (.exit 5)
def ir11_48 : IC := .seq ir11_r36 ir11_47
def ir11_r38 : IC := .draw [(⟨some 312, none, false, .bsl 4 0 [] []⟩, false, 0, 1),
  (⟨some 313, none, false, .mv (.t 14)⟩, false, 0, 0),
  (⟨some 314, none, false, .mv (.t 18)⟩, false, 0, 0),
  (⟨some 315, none, false, .gen (.slice 84 (.tmp 313) none (some (.tmp 314)) none)⟩, false, 6, 1),
  (⟨some 316, none, false, .app 4 32 (.t 312) (.t 315)⟩, false, 15, 1),
  (⟨some 317, none, false, .mv (.t 14)⟩, false, 0, 0),
  (⟨some 318, none, false, .mv (.t 18)⟩, false, 0, 0),
  (⟨some 319, none, false, .ar .add (.t 318) (.k (.int .i64 1))⟩, false, 64, 0),
  (⟨some 320, none, false, .gen (.slice 84 (.tmp 317) (some (.tmp 319)) none none)⟩, false, 224, 16),
  (⟨some 321, none, false, .app 4 32 (.t 316) (.t 320)⟩, true, 511, 1),
  (⟨some 19, none, false, .mv (.t 321)⟩, false, 1023, 0)] (some [2, 14, 18, 19])
def ir11_r39 : IC := .reg [⟨some 323, none, false, .mv (.t 19)⟩,
  ⟨some 324, none, false, .fad 1 (.t 2)⟩,
  ⟨some 325, none, false, .ldc (.t 324)⟩,
  ⟨some 326, none, false, .call (.f 40) [(.t 323), (.t 325)]⟩,
  ⟨some 322, none, false, .mv (.t 326)⟩,
  ⟨some 327, none, false, .ext (.t 322) 0⟩,
  ⟨some 328, none, false, .ext (.t 322) 1⟩,
  ⟨some 20, none, false, .alloc [(.int .i64 0), (.int .i64 0)]⟩,
  ⟨none, none, false, .st 2 (.t 20) (.t 327)⟩,
  ⟨some 21, none, false, .mv (.t 328)⟩] (some [2, 14, 18, 21])
def ir11_r40 : IC := .reg [⟨some 329, none, false, .mv (.t 21)⟩,
  ⟨some 330, none, false, .cmp .neq (.t 329) (.k (.int .i64 0))⟩] (some [2, 14, 18, 330])
def ir11_r41 : IC := .reg [⟨some 4, none, false, .mv (.k (.bool false))⟩] (some [4])
def ir11_49 : IC := .seq ir11_r41 .ret
def ir11_50 : IC := .cond (.t 330) ir11_49 .skip
def ir11_51 : IC := .seq ir11_r40 ir11_50
def ir11_52 : IC := .seq ir11_r39 ir11_51
def ir11_53 : IC := .seq ir11_r38 ir11_52
def ir11_54 : IC := .block 6 ir11_53
def ir11_r37 : IC := .reg [⟨some 310, none, false, .mv (.t 18)⟩,
  ⟨some 311, none, false, .ar .add (.t 310) (.k (.int .i64 1))⟩,
  ⟨some 18, none, false, .mv (.t 311)⟩] (some [2, 14, 18])
def ir11_55 : IC := .seq ir11_54 ir11_r37
def ir11_56 : IC := .seq ir11_48 ir11_55
def ir11_57 : IC := .loop ir11_56
def ir11_58 : IC := .block 5 ir11_57
def ir11_59 : IC := .seq ir11_r35 ir11_58
def ir11_r42 : IC := .reg [⟨some 331, none, false, .call (.f 14) []⟩,
  ⟨some 4, none, false, .mv (.t 331)⟩] (some [4])
def ir11_60 : IC := .seq ir11_r42 .ret
def ir11_61 : IC := .seq ir11_59 ir11_60
def ir11_62 : IC := .seq ir11_46 ir11_61
def ir11_63 : IC := .seq ir11_42 ir11_62
def ir11_64 : IC := .seq ir11_39 ir11_63
def ir11_65 : IC := .seq ir11_r23 ir11_64
def ir11_66 : IC := .seq ir11_27 ir11_65
def ir11_67 : IC := .cond (.t 213) ir11_66 .skip
def ir11_68 : IC := .seq ir11_r20 ir11_67
def ir11_69 : IC := .cond (.t 55) ir11_24 ir11_68
def ir11_70 : IC := .seq ir11_r7 ir11_69
def ir11_71 : IC := .block 0 ir11_70
def ir11_72 : IC := .seq ir11_r6 ir11_71
def ir11_r43 : IC := .reg [⟨some 332, none, false, .mv (.t 8)⟩,
  ⟨some 333, none, false, .mv (.t 6)⟩,
  ⟨some 334, none, false, .cmp .eql (.t 332) (.t 333)⟩,
  ⟨some 335, none, false, .mv (.t 334)⟩,
  ⟨some 336, some (335, true), false, .lda 2 (.t 5)⟩,
  ⟨some 337, some (335, true), false, .bld [(.int .i64 0), (.int .i64 0)] []⟩,
  ⟨some 338, some (335, true), false, .eqs false [false, false] (.t 336) (.t 337)⟩,
  ⟨some 339, none, false, .pick (.t 335) (.t 338) (.k (.bool false))⟩,
  ⟨some 340, none, false, .mv (.t 339)⟩,
  ⟨some 341, some (340, true), false, .mv (.t 7)⟩,
  ⟨some 342, some (340, true), false, .len (.t 341)⟩,
  ⟨some 343, some (340, true), false, .cmp .eql (.t 342) (.k (.int .i64 0))⟩,
  ⟨some 344, none, false, .pick (.t 340) (.t 343) (.k (.bool false))⟩,
  ⟨some 345, none, false, .mv (.t 344)⟩,
  ⟨some 346, some (345, true), false, .call (.f 14) []⟩,
  ⟨some 347, none, false, .pick (.t 345) (.t 346) (.k (.bool false))⟩,
  ⟨some 4, none, false, .mv (.t 347)⟩] (some [4])
def ir11_73 : IC := .seq ir11_r43 .ret
def ir11_74 : IC := .seq ir11_72 ir11_73
def ir11_75 : IC := .seq ir11_r5 ir11_74
def ir11_76 : IC := .seq ir11_r4 ir11_75
def ir11_77 : IC := .seq ir11_r3 ir11_76
def ir11_78 : IC := .seq ir11_3 ir11_77
def ir11_79 : IC := .seq ir11_r0 ir11_78
def ir11 : IC := ir11_79
theorem fn11 : FnIs Try.prog 11 ir11 348 [.tmp 4] := ⟨Try.f11, Try.f11.body.getD .skip, Try.func11, by kernel_rfl, by kernel_rfl, by kernel_rfl, by kernel_rfl⟩
abbrev qS : AEx → Fr → List Nat → AH → Prop := BlkQ 0 (SeqQ Try.prog 348 none 2 ir11_73 endT)
def lesL (b1 b2 : Bool) (l : List Tl) (k : Nat) : List Tl := (l.take k).map (lesF b1 b2) ++ l.drop k
theorem lesL_len (b1 b2 : Bool) (l : List Tl) (k : Nat) : (lesL b1 b2 l k).length = l.length := by
  simp [lesL]
  omega
theorem lesL_get {b1 b2 : Bool} {l : List Tl} {k : Nat} (hk : k < l.length) : nth (lesL b1 b2 l k) k = nth l k := by
  unfold lesL nth
  rw [List.getD_eq_getElem?_getD, List.getElem?_append_right (by simp; omega), List.getElem?_drop, List.getD_eq_getElem?_getD]
  congr 2
  simp
  omega
theorem lesL_set {b1 b2 : Bool} {l : List Tl} {k : Nat} (hk : k < l.length) : (lesL b1 b2 l k).set k (lesF b1 b2 (nth l k)) = lesL b1 b2 l (k + 1) := by
  unfold lesL
  have h1 : k - ((l.take k).map (lesF b1 b2)).length = 0 := by simp; omega
  rw [List.set_append_right _ _ (by simp; omega), h1, List.drop_eq_getElem_cons hk, List.set_cons_zero, List.take_add_one, List.map_append, get_nth hk, List.append_assoc]
  rfl
theorem lesL_0 (b1 b2 : Bool) (l : List Tl) : lesL b1 b2 l 0 = l := by simp [lesL]
theorem lesL_end {b1 b2 : Bool} {l : List Tl} : lesL b1 b2 l l.length = l.map (lesF b1 b2) := by simp [lesL]
theorem set_nth {xs : List Tl} {k : Nat} (hk : k < xs.length) : xs.set k (nth xs k) = xs := by
  rw [← (List.getElem?_eq_some_iff.1 (get_nth hk)).2]
  exact List.set_getElem_self hk
theorem getT {xs : List Tl} {i j : Nat} {v : Value} (hi : i < xs.length) (hj : j < 4) (hv : (eT (nth xs i))[j]? = some v) : (rows eT xs)[i * 4 + j]? = some v := by
  rw [rows_get (f := eT) hi hj, hv]
theorem ck_mk {l : List Tl} {tol : Int} (h1 : l.length ≤ 10) (h2 : 1 ≤ l.length) (h3 : ∀ i, i < l.length → tltB (nth l i) = true) (h4 : 0 ≤ tol) (h5 : tol ≤ 36000) : ckT l tol = 0 := by
  unfold ckT
  rw [if_neg (by omega), if_neg, if_pos]
  · unfold inT
    rw [decide_eq_true h4, decide_eq_true h5]
    rfl
  · rintro (h | h)
    · omega
    · obtain ⟨t, ht, h⟩ := List.any_eq_true.1 h
      obtain ⟨i, hi, rfl⟩ := List.mem_iff_getElem.1 ht
      have := h3 i hi
      rw [← (List.getElem?_eq_some_iff.1 (get_nth hi)).2] at this
      rw [this] at h
      cases h
theorem nth_map {f : Tl → Tl} {l : List Tl} {i : Nat} (hi : i < l.length) : nth (l.map f) i = f (nth l i) := by
  unfold nth
  rw [List.getD_eq_getElem?_getD, List.getElem?_map, get_nth hi]
  rfl
theorem up_ne {n : Nat} (h : 1 ≤ n) : upN 0 n ≠ [] := fun e => by
  have := upN_len n 0
  rw [e] at this
  simp at this
  omega
/-- With narrower ranges and a greater tolerance. -/
theorem narrow {l : List Tl} {tol tol2 a1 a2 : Int} {q1 q2 : Bool} (hck : ckT l tol = 0) (h2 : tol ≤ tol2) (h3 : tol2 ≤ 36000) (hF : (firstF (sqL l tol (upN 0 l.length))) = (a1, a2, true)) :
    sutB (l.map (lesF q1 q2)) tol a1 a2 = true ∧ ∃ b1 b2, turnF (l.map (lesF q1 q2)) tol2 = (b1, b2, 0) ∧ (b1 < a1 ∨ b1 = a1 ∧ b2 ≤ a2) := by
  obtain ⟨c1, c2, c3, c4, c5⟩ := ck_ok hck
  have hs := (first_some (a := sqL l tol (upN 0 l.length)) (by rw [hF])).1
  rw [hF] at hs
  simp only at hs
  have hv : ∀ i, i < (l.map (lesF q1 q2)).length → tltB (nth (l.map (lesF q1 q2)) i) = true := fun i hi => by
    have hi2 : i < l.length := by simpa using hi
    rw [nth_map hi2]
    exact les_ok (c3 i hi2)
  have hne : l.map (lesF q1 q2) ≠ [] := fun e => by
    have := congrArg List.length e
    simp at this
    rw [this] at c2
    simp at c2
  have hin : ∀ tol3, tol ≤ tol3 → inSq (sqL (l.map (lesF q1 q2)) tol3 (upN 0 (l.map (lesF q1 q2)).length)) a1 a2 := fun tol3 h3 => by
    rw [List.length_map, in_sqL (up_ne c2)]
    intro j hj
    have hj2 := upN_mem.1 hj
    have hjl : j.toNat < l.length := by omega
    rw [nth_map hjl]
    exact les_sq (c3 _ hjl) h3 ((in_sqL (up_ne c2)).1 hs j hj)
  refine ⟨(sut_iff hv hne).2 ⟨sq_rng hv hne c5 (hin tol (Int.le_refl _)), hin tol (Int.le_refl _)⟩, ?_⟩
  have hck2 : ckT (l.map (lesF q1 q2)) tol2 = 0 := ck_mk (by simpa using c1) (by simpa using c2) hv (by omega) h3
  have hi2 := hin tol2 h2
  unfold turnF
  rw [if_pos hck2]
  generalize sqL (l.map (lesF q1 q2)) tol2 (upN 0 (l.map (lesF q1 q2)).length) = S at *
  cases hf : (firstF S).2.2 with
  | false => exact absurd hi2 ((first_none hf).1 _ _)
  | true =>
    refine ⟨_, _, if_pos rfl, ?_⟩
    have := (first_some hf).2 a1 a2 hi2
    omega
set_option maxHeartbeats 1000000 in
theorem suits_A2 (n c : Nat) (l : List Tl) (tol sx sy b a1 a2 : Int) (hn : l.length = n) (hb0 : 0 ≤ b) (hb1 : b ≤ 255) (hck : ckT l tol = 0) (hF : (firstF (sqL l tol (upN 0 l.length))) = (a1, a2, true)) :
    ITri Try.prog 348 none 2 ir11_23 [(1, .int .u8 b), (2, pt 2), (5, pt 3)] [] (Hp 2 (m3 n c l tol sx sy [some (.cells ⟨[.int .i64 a1, .int .i64 a2], 1, false⟩)])) qS := by
  obtain ⟨c1, c2, c3, c4, c5⟩ := ck_ok hck
  have hob : 1 < openB := by unfold openB; omega
  have hlen : (rows eT l).length = n * 4 := by rw [rows_len, hn]
  have htkA : takeC (rows eT l) 0 (n * 4) = some (rows eT l) := takeC_0 _ _ hlen
  have hn0 : n ≠ 0 := by omega
  refine ITri.seq ?_
  refine ITri.reg pokT ?_; simp -implicitDefEqProofs (disch := first | decide | exact of_eq_true (eq_true rfl) | omega | assumption) only [htkA, hlen, rows_allT,  ↓vcD, vcE, evs, evP, evB, intsOf, fillC, Value.cells, pt, List.append_nil, List.nil_append, List.cons_append, List.length_cons, List.length_nil, List.filter_nil, List.map_nil, ↓List.getElem?_cons_zero, ↓List.getElem?_cons_succ, List.getElem?_cons_zero, List.getElem?_cons_succ, List.set_cons_zero, List.set_cons_succ, Option.join_some, Option.join_none, Option.map_some, List.all_cons, List.all_nil, Value.oneCell', reduceIte, reduceCtorEq, Nat.reduceEqDiff, Nat.reduceAdd, Nat.reduceMul, Nat.reduceLT, Nat.reduceBEq, Nat.reduceLeDiff, Nat.reduceSub, List.size_toArray] -- r10
  refine ITri.seq ?_
  refine ITri.seq ?_
  refine ITri.reg pokT ?_; simp -implicitDefEqProofs (disch := first | decide | exact of_eq_true (eq_true rfl) | omega | assumption) only [ ↓vcD, vcE, evs, evP, evB, intsOf, fillC, Value.cells, pt, List.append_nil, List.nil_append, List.cons_append, List.length_cons, List.length_nil, List.filter_nil, List.map_nil, ↓List.getElem?_cons_zero, ↓List.getElem?_cons_succ, List.getElem?_cons_zero, List.getElem?_cons_succ, List.set_cons_zero, List.set_cons_succ, Option.join_some, Option.join_none, Option.map_some, List.all_cons, List.all_nil, Value.oneCell', reduceIte, reduceCtorEq, Nat.reduceEqDiff, Nat.reduceAdd, Nat.reduceMul, Nat.reduceLT, Nat.reduceBEq, Nat.reduceLeDiff, Nat.reduceSub, List.size_toArray] -- r11
  refine ITri.block ?_ -- 1
  generalize hB1 : decide (btI BinOp.and IntKind.u8 b 1 = 1) = q1
  generalize hB2 : decide (btI BinOp.and IntKind.u8 b 2 = 2) = q2
  refine ITri.loop (fun k : Nat => [(1, .int .u8 b), (2, pt 2), (5, pt 3), (10, .slice (some ⟨4, 0, none⟩) n openB), (11, .int .i64 k)]) (fun _ => []) (fun k => Hp 2 (m3 n c l tol sx sy [some (.cells ⟨[.int .i64 a1, .int .i64 a2], 1, false⟩), some (.cells ⟨rows eT (lesL q1 q2 l k), 4, true⟩)])) (fun k => k ≤ n) (fun k => n - k) 0 (by omega) (Wk.gc [0, 1, 2, 3, 5] [] (of_decide_eq_true rfl) (of_decide_eq_true rfl) rfl rfl (of_decide_eq_true rfl) rfl rfl (by repeat (first | exact xiOK_nil | refine xiOK_cons (by first | trivial | exact roomOK _ (by decide)) ?_)) rfl (by simp -implicitDefEqProofs (disch := first | decide | exact of_eq_true (eq_true rfl) | omega | assumption) only [lesL_0, objOK, sgL, xiL, objAt, nilO, OM, mvL, mv, mvS, okS, okP, mvL_rows, okML, okM, okML_rows, List.getElem?_cons_zero, Option.getD_some, implies_true, imp_self, ne_eq, and_self, true_or, or_true, Nat.zero_mul, Nat.sub_self, openB_self, ↓vcD, vcE, evs, evP, evB, intsOf, fillC, Value.cells, pt, List.append_nil, List.nil_append, List.cons_append, List.length_cons, List.length_nil, List.filter_nil, List.map_nil, ↓List.getElem?_cons_zero, ↓List.getElem?_cons_succ, List.getElem?_cons_zero, List.getElem?_cons_succ, List.set_cons_zero, List.set_cons_succ, Option.join_some, Option.join_none, Option.map_some, List.all_cons, List.all_nil, Value.oneCell', reduceIte, reduceCtorEq, Nat.reduceEqDiff, Nat.reduceAdd, Nat.reduceMul, Nat.reduceLT, Nat.reduceBEq, Nat.reduceLeDiff, Nat.reduceSub, List.size_toArray]) (by simp -implicitDefEqProofs (disch := first | decide | exact of_eq_true (eq_true rfl) | omega | assumption) only [lesL_0, valOK, sgL, xiL, mv, mvA, mvL, mvS, okS, okP, okM, okMA, okML, Option.getD_some, implies_true, and_self, true_or, or_true, Int.natCast_add, Int.cast_ofNat_Int, Nat.zero_mul, Nat.sub_self, openB_self, ↓vcD, vcE, evs, evP, evB, intsOf, fillC, Value.cells, pt, List.append_nil, List.nil_append, List.cons_append, List.length_cons, List.length_nil, List.filter_nil, List.map_nil, ↓List.getElem?_cons_zero, ↓List.getElem?_cons_succ, List.getElem?_cons_zero, List.getElem?_cons_succ, List.set_cons_zero, List.set_cons_succ, Option.join_some, Option.join_none, Option.map_some, List.all_cons, List.all_nil, Value.oneCell', reduceIte, reduceCtorEq, Nat.reduceEqDiff, Nat.reduceAdd, Nat.reduceMul, Nat.reduceLT, Nat.reduceBEq, Nat.reduceLeDiff, Nat.reduceSub, List.size_toArray]) (fun _ h => by cases h) ⟨rfl, fun _ h => by cases h⟩) fun k hk => ?_
  refine ITri.seq ?_
  refine ITri.seq ?_
  refine ITri.reg pokT ?_; simp -implicitDefEqProofs (disch := first | decide | exact of_eq_true (eq_true rfl) | omega | assumption) only [ ↓vcD, vcE, evs, evP, evB, intsOf, fillC, Value.cells, pt, List.append_nil, List.nil_append, List.cons_append, List.length_cons, List.length_nil, List.filter_nil, List.map_nil, ↓List.getElem?_cons_zero, ↓List.getElem?_cons_succ, List.getElem?_cons_zero, List.getElem?_cons_succ, List.set_cons_zero, List.set_cons_succ, Option.join_some, Option.join_none, Option.map_some, List.all_cons, List.all_nil, Value.oneCell', reduceIte, reduceCtorEq, Nat.reduceEqDiff, Nat.reduceAdd, Nat.reduceMul, Nat.reduceLT, Nat.reduceBEq, Nat.reduceLeDiff, Nat.reduceSub, List.size_toArray] -- r12
  refine ITri.condD (by rfl) (fun h5 => ?_) (fun h5 => ?_) -- %107
  · have hkn : k < l.length := by omega
    have hkL : k < (lesL q1 q2 l k).length := by rw [lesL_len]; omega
    have hLl : (rows eT (lesL q1 q2 l k)).length = n * 4 := by rw [rows_len, lesL_len, hn]
    obtain ⟨⟨xl, xh, yl, yh⟩, ht⟩ : ∃ t, nth l k = t := ⟨_, rfl⟩
    have hbt := tlt_ok (c3 k hkn)
    rw [ht] at hbt
    simp only at hbt
    have hgt : nth (lesL q1 q2 l k) k = (xl, xh, yl, yh) := by rw [lesL_get hkn, ht]
    have g0 : (rows eT (lesL q1 q2 l k))[k * 4]? = some (.int .i64 xl) := by rw [rows_get0 (f := eT) hkL (by omega), hgt]; rfl
    have g1 : (rows eT (lesL q1 q2 l k))[k * 4 + 1]? = some (.int .i64 xh) := getT hkL (by omega) (by rw [hgt]; rfl)
    obtain ⟨xl1, hx1⟩ : ∃ x, x = if q1 = true ∧ xl < xh then xl + 1 else xl := ⟨_, rfl⟩
    obtain ⟨yh1, hy1⟩ : ∃ x, x = if q2 = true ∧ yl < yh then yh - 1 else yh := ⟨_, rfl⟩
    refine ITri.skip ?_; simp only [SeqQ_normal, BlkQ_normal]
    refine ITri.seq ?_
    refine ITri.block ?_ -- 2
    refine ITri.seq ?_
    refine ITri.cut (fun _ : Unit => [(1, .int .u8 b), (2, pt 2), (5, pt 3), (10, .slice (some ⟨4, 0, none⟩) n openB), (11, .int .i64 k)]) (fun _ => []) (fun _ => Hp 2 (m3 n c l tol sx sy [some (.cells ⟨[.int .i64 a1, .int .i64 a2], 1, false⟩), some (.cells ⟨rows eT ((lesL q1 q2 l k).set k (xl1, xh, yl, yh)), 4, true⟩)])) (fun _ => True) ?_ (fun _ _ => ?_)
    · have hsame : (lesL q1 q2 l k).set k (xl, xh, yl, yh) = lesL q1 q2 l k := by
        rw [← hgt]
        exact set_nth hkL
      refine ITri.seq ?_
      cases q1 with
      | false =>
        refine ITri.draw pokT ?_; simp -implicitDefEqProofs (disch := first | decide | exact of_eq_true (eq_true rfl) | omega | assumption) only [hB1,  ↓vcD, vcE, evs, evP, evB, intsOf, fillC, Value.cells, pt, List.append_nil, List.nil_append, List.cons_append, List.length_cons, List.length_nil, List.filter_nil, List.map_nil, ↓List.getElem?_cons_zero, ↓List.getElem?_cons_succ, List.getElem?_cons_zero, List.getElem?_cons_succ, List.set_cons_zero, List.set_cons_succ, Option.join_some, Option.join_none, Option.map_some, List.all_cons, List.all_nil, Value.oneCell', reduceIte, reduceCtorEq, Nat.reduceEqDiff, Nat.reduceAdd, Nat.reduceMul, Nat.reduceLT, Nat.reduceBEq, Nat.reduceLeDiff, Nat.reduceSub, List.size_toArray]
        refine ITri.cond (v := false) rfl (fun h => by cases h) (fun _ => ?_); refine ITri.skip ?_
        rw [if_neg (by simp)] at hx1
        subst hx1
        refine CutQ.mk () trivial ?_
        rw [hsame]
        exact Wk.sub ⟨rfl, rfl, rfl, rfl, rfl, trivial⟩
      | true =>
        by_cases g2 : xl < xh
        · refine ITri.draw pokT ?_; simp -implicitDefEqProofs (disch := first | decide | exact of_eq_true (eq_true rfl) | omega | assumption) only [hB1, g0, g1, g2, decide_true,  ↓vcD, vcE, evs, evP, evB, intsOf, fillC, Value.cells, pt, List.append_nil, List.nil_append, List.cons_append, List.length_cons, List.length_nil, List.filter_nil, List.map_nil, ↓List.getElem?_cons_zero, ↓List.getElem?_cons_succ, List.getElem?_cons_zero, List.getElem?_cons_succ, List.set_cons_zero, List.set_cons_succ, Option.join_some, Option.join_none, Option.map_some, List.all_cons, List.all_nil, Value.oneCell', reduceIte, reduceCtorEq, Nat.reduceEqDiff, Nat.reduceAdd, Nat.reduceMul, Nat.reduceLT, Nat.reduceBEq, Nat.reduceLeDiff, Nat.reduceSub, List.size_toArray]
          refine ITri.cond (v := true) rfl (fun _ => ?_) (fun h => by cases h)
          refine ITri.reg pokT ?_; simp -implicitDefEqProofs (disch := first | decide | exact of_eq_true (eq_true rfl) | omega | assumption) only [g0, hLl,  ↓vcD, vcE, evs, evP, evB, intsOf, fillC, Value.cells, pt, List.append_nil, List.nil_append, List.cons_append, List.length_cons, List.length_nil, List.filter_nil, List.map_nil, ↓List.getElem?_cons_zero, ↓List.getElem?_cons_succ, List.getElem?_cons_zero, List.getElem?_cons_succ, List.set_cons_zero, List.set_cons_succ, Option.join_some, Option.join_none, Option.map_some, List.all_cons, List.all_nil, Value.oneCell', reduceIte, reduceCtorEq, Nat.reduceEqDiff, Nat.reduceAdd, Nat.reduceMul, Nat.reduceLT, Nat.reduceBEq, Nat.reduceLeDiff, Nat.reduceSub, List.size_toArray]
          refine CutQ.mk () trivial ?_
          rw [if_pos ⟨rfl, g2⟩] at hx1
          subst hx1
          rw [← rows_writef (f := eT) (i := k) (j := 0) (xl + 1, xh, yl, yh) (v := .int .i64 (xl + 1)) hkL (by omega) (by rw [hgt]; rfl)]
          exact Wk.sub ⟨rfl, rfl, rfl, rfl, rfl, trivial⟩
        · refine ITri.draw pokT ?_; simp -implicitDefEqProofs (disch := first | decide | exact of_eq_true (eq_true rfl) | omega | assumption) only [hB1, g0, g1, g2, decide_false,  ↓vcD, vcE, evs, evP, evB, intsOf, fillC, Value.cells, pt, List.append_nil, List.nil_append, List.cons_append, List.length_cons, List.length_nil, List.filter_nil, List.map_nil, ↓List.getElem?_cons_zero, ↓List.getElem?_cons_succ, List.getElem?_cons_zero, List.getElem?_cons_succ, List.set_cons_zero, List.set_cons_succ, Option.join_some, Option.join_none, Option.map_some, List.all_cons, List.all_nil, Value.oneCell', reduceIte, reduceCtorEq, Nat.reduceEqDiff, Nat.reduceAdd, Nat.reduceMul, Nat.reduceLT, Nat.reduceBEq, Nat.reduceLeDiff, Nat.reduceSub, List.size_toArray]
          refine ITri.cond (v := false) rfl (fun h => by cases h) (fun _ => ?_); refine ITri.skip ?_
          rw [if_neg (fun h => g2 h.2)] at hx1
          subst hx1
          refine CutQ.mk () trivial ?_
          rw [hsame]
          exact Wk.sub ⟨rfl, rfl, rfl, rfl, rfl, trivial⟩
    have hkM : k < ((lesL q1 q2 l k).set k (xl1, xh, yl, yh)).length := by rw [List.length_set]; exact hkL
    have hMl : (rows eT ((lesL q1 q2 l k).set k (xl1, xh, yl, yh))).length = n * 4 := by rw [rows_len, List.length_set, lesL_len, hn]
    have hgM : nth ((lesL q1 q2 l k).set k (xl1, xh, yl, yh)) k = (xl1, xh, yl, yh) := by
      unfold nth
      rw [List.getD_eq_getElem?_getD, List.getElem?_set_self hkL]
      rfl
    have hfin : lesL q1 q2 l (k + 1) = ((lesL q1 q2 l k).set k (xl1, xh, yl, yh)).set k (xl1, xh, yl, yh1) := by
      rw [List.set_set, ← lesL_set hkn, ht, hx1, hy1]
      rfl
    generalize (lesL q1 q2 l k).set k (xl1, xh, yl, yh) = M at *
    have g3 : (rows eT M)[k * 4 + 2]? = some (.int .i64 yl) := getT hkM (by omega) (by rw [hgM]; rfl)
    have g4 : (rows eT M)[k * 4 + 3]? = some (.int .i64 yh) := getT hkM (by omega) (by rw [hgM]; rfl)
    have g4' : (rows eT M)[k * 4 + 2 + 1]? = some (.int .i64 yh) := g4
    refine ITri.cut (fun _ : Unit => [(1, .int .u8 b), (2, pt 2), (5, pt 3), (10, .slice (some ⟨4, 0, none⟩) n openB), (11, .int .i64 k)]) (fun _ => []) (fun _ => Hp 2 (m3 n c l tol sx sy [some (.cells ⟨[.int .i64 a1, .int .i64 a2], 1, false⟩), some (.cells ⟨rows eT (lesL q1 q2 l (k + 1)), 4, true⟩)])) (fun _ => True) ?_ (fun _ _ => ?_)
    · have hsame : M.set k (xl1, xh, yl, yh) = M := by
        rw [← hgM]
        exact set_nth hkM
      rw [hfin]
      refine ITri.seq ?_
      cases q2 with
      | false =>
        refine ITri.draw pokT ?_; simp -implicitDefEqProofs (disch := first | decide | exact of_eq_true (eq_true rfl) | omega | assumption) only [hB2,  ↓vcD, vcE, evs, evP, evB, intsOf, fillC, Value.cells, pt, List.append_nil, List.nil_append, List.cons_append, List.length_cons, List.length_nil, List.filter_nil, List.map_nil, ↓List.getElem?_cons_zero, ↓List.getElem?_cons_succ, List.getElem?_cons_zero, List.getElem?_cons_succ, List.set_cons_zero, List.set_cons_succ, Option.join_some, Option.join_none, Option.map_some, List.all_cons, List.all_nil, Value.oneCell', reduceIte, reduceCtorEq, Nat.reduceEqDiff, Nat.reduceAdd, Nat.reduceMul, Nat.reduceLT, Nat.reduceBEq, Nat.reduceLeDiff, Nat.reduceSub, List.size_toArray]
        refine ITri.cond (v := false) rfl (fun h => by cases h) (fun _ => ?_); refine ITri.skip ?_
        rw [if_neg (by simp)] at hy1
        subst hy1
        refine CutQ.mk () trivial ?_
        rw [hsame]
        exact Wk.sub ⟨rfl, rfl, rfl, rfl, rfl, trivial⟩
      | true =>
        by_cases g2 : yl < yh
        · refine ITri.draw pokT ?_; simp -implicitDefEqProofs (disch := first | decide | exact of_eq_true (eq_true rfl) | omega | assumption) only [hB2, g3, g4, g4', g2, decide_true,  ↓vcD, vcE, evs, evP, evB, intsOf, fillC, Value.cells, pt, List.append_nil, List.nil_append, List.cons_append, List.length_cons, List.length_nil, List.filter_nil, List.map_nil, ↓List.getElem?_cons_zero, ↓List.getElem?_cons_succ, List.getElem?_cons_zero, List.getElem?_cons_succ, List.set_cons_zero, List.set_cons_succ, Option.join_some, Option.join_none, Option.map_some, List.all_cons, List.all_nil, Value.oneCell', reduceIte, reduceCtorEq, Nat.reduceEqDiff, Nat.reduceAdd, Nat.reduceMul, Nat.reduceLT, Nat.reduceBEq, Nat.reduceLeDiff, Nat.reduceSub, List.size_toArray]
          refine ITri.cond (v := true) rfl (fun _ => ?_) (fun h => by cases h)
          refine ITri.reg pokT ?_; simp -implicitDefEqProofs (disch := first | decide | exact of_eq_true (eq_true rfl) | omega | assumption) only [g3, g4, g4', hMl,  ↓vcD, vcE, evs, evP, evB, intsOf, fillC, Value.cells, pt, List.append_nil, List.nil_append, List.cons_append, List.length_cons, List.length_nil, List.filter_nil, List.map_nil, ↓List.getElem?_cons_zero, ↓List.getElem?_cons_succ, List.getElem?_cons_zero, List.getElem?_cons_succ, List.set_cons_zero, List.set_cons_succ, Option.join_some, Option.join_none, Option.map_some, List.all_cons, List.all_nil, Value.oneCell', reduceIte, reduceCtorEq, Nat.reduceEqDiff, Nat.reduceAdd, Nat.reduceMul, Nat.reduceLT, Nat.reduceBEq, Nat.reduceLeDiff, Nat.reduceSub, List.size_toArray]
          refine CutQ.mk () trivial ?_
          rw [if_pos ⟨rfl, g2⟩] at hy1
          subst hy1
          rw [← rows_writef (f := eT) (i := k) (j := 3) (xl1, xh, yl, yh - 1) (v := .int .i64 (yh - 1)) hkM (by omega) (by rw [hgM]; rfl)]
          exact Wk.sub ⟨rfl, rfl, rfl, rfl, rfl, trivial⟩
        · refine ITri.draw pokT ?_; simp -implicitDefEqProofs (disch := first | decide | exact of_eq_true (eq_true rfl) | omega | assumption) only [hB2, g3, g4, g4', g2, decide_false,  ↓vcD, vcE, evs, evP, evB, intsOf, fillC, Value.cells, pt, List.append_nil, List.nil_append, List.cons_append, List.length_cons, List.length_nil, List.filter_nil, List.map_nil, ↓List.getElem?_cons_zero, ↓List.getElem?_cons_succ, List.getElem?_cons_zero, List.getElem?_cons_succ, List.set_cons_zero, List.set_cons_succ, Option.join_some, Option.join_none, Option.map_some, List.all_cons, List.all_nil, Value.oneCell', reduceIte, reduceCtorEq, Nat.reduceEqDiff, Nat.reduceAdd, Nat.reduceMul, Nat.reduceLT, Nat.reduceBEq, Nat.reduceLeDiff, Nat.reduceSub, List.size_toArray]
          refine ITri.cond (v := false) rfl (fun h => by cases h) (fun _ => ?_); refine ITri.skip ?_
          rw [if_neg (fun h => g2 h.2)] at hy1
          subst hy1
          refine CutQ.mk () trivial ?_
          rw [hsame]
          exact Wk.sub ⟨rfl, rfl, rfl, rfl, rfl, trivial⟩
    refine ITri.reg pokT ?_; simp -implicitDefEqProofs (disch := first | decide | exact of_eq_true (eq_true rfl) | omega | assumption) only [ ↓vcD, vcE, evs, evP, evB, intsOf, fillC, Value.cells, pt, List.append_nil, List.nil_append, List.cons_append, List.length_cons, List.length_nil, List.filter_nil, List.map_nil, ↓List.getElem?_cons_zero, ↓List.getElem?_cons_succ, List.getElem?_cons_zero, List.getElem?_cons_succ, List.set_cons_zero, List.set_cons_succ, Option.join_some, Option.join_none, Option.map_some, List.all_cons, List.all_nil, Value.oneCell', reduceIte, reduceCtorEq, Nat.reduceEqDiff, Nat.reduceAdd, Nat.reduceMul, Nat.reduceLT, Nat.reduceBEq, Nat.reduceLeDiff, Nat.reduceSub, List.size_toArray] -- r13
    refine LoopQ.next (k + 1) (by omega) (by omega) (Wk.sub ⟨rfl, rfl, rfl, rfl, rfl, trivial⟩)
  refine ITri.exit ?_; try simp -implicitDefEqProofs (disch := first | decide | exact of_eq_true (eq_true rfl) | omega | assumption) only [ ↓vcD, vcE, evs, evP, evB, intsOf, fillC, Value.cells, pt, List.append_nil, List.nil_append, List.cons_append, List.length_cons, List.length_nil, List.filter_nil, List.map_nil, ↓List.getElem?_cons_zero, ↓List.getElem?_cons_succ, List.getElem?_cons_zero, List.getElem?_cons_succ, List.set_cons_zero, List.set_cons_succ, Option.join_some, Option.join_none, Option.map_some, List.all_cons, List.all_nil, Value.oneCell', reduceIte, reduceCtorEq, Nat.reduceEqDiff, Nat.reduceAdd, Nat.reduceMul, Nat.reduceLT, Nat.reduceBEq, Nat.reduceLeDiff, Nat.reduceSub, List.size_toArray] -- exit 1
  obtain rfl : n = k := by omega
  have hN : lesL q1 q2 l n = l.map (lesF q1 q2) := by rw [← hn]; exact lesL_end
  rw [hN]
  have hLn : (l.map (lesF q1 q2)).length = n := by rw [List.length_map, hn]
  have hsh : shI .shr .u8 b 4 = b / 16 := by
    show Int.fdiv b _ = _
    rw [Int.fdiv_eq_ediv_of_nonneg _ (by decide)]
    rfl
  obtain ⟨hsu, b1, b2, hT, hle⟩ := narrow (q1 := q1) (q2 := q2) (tol2 := min (tol + b / 16) 36000) hck (by omega) (by omega) hF
  generalize l.map (lesF q1 q2) = L2 at *
  have hlen2 : (rows eT L2).length = n * 4 := by rw [rows_len, hLn]
  have htk2 : takeC (rows eT L2) 0 (n * 4) = some (rows eT L2) := takeC_0 _ _ hlen2
  refine ITri.seq ?_
  refine ITri.draw pokT ?_; simp -implicitDefEqProofs (disch := first | decide | exact of_eq_true (eq_true rfl) | omega | assumption) only [htk2, hlen2, rows_allT, hsh,  ↓vcD, vcE, evs, evP, evB, intsOf, fillC, Value.cells, pt, List.append_nil, List.nil_append, List.cons_append, List.length_cons, List.length_nil, List.filter_nil, List.map_nil, ↓List.getElem?_cons_zero, ↓List.getElem?_cons_succ, List.getElem?_cons_zero, List.getElem?_cons_succ, List.set_cons_zero, List.set_cons_succ, Option.join_some, Option.join_none, Option.map_some, List.all_cons, List.all_nil, Value.oneCell', reduceIte, reduceCtorEq, Nat.reduceEqDiff, Nat.reduceAdd, Nat.reduceMul, Nat.reduceLT, Nat.reduceBEq, Nat.reduceLeDiff, Nat.reduceSub, List.size_toArray] -- r18
  refine ⟨_, _, turn_f n L2 (min (tol + b / 16) 36000) hLn (sees0 rfl (of_decide_eq_true rfl)) (Rd.hq rfl rfl), ?_⟩
  rw [hT]
  try simp -implicitDefEqProofs (disch := first | decide | exact of_eq_true (eq_true rfl) | omega | assumption) only [ ↓vcD, vcE, evs, evP, evB, intsOf, fillC, Value.cells, pt, List.append_nil, List.nil_append, List.cons_append, List.length_cons, List.length_nil, List.filter_nil, List.map_nil, ↓List.getElem?_cons_zero, ↓List.getElem?_cons_succ, List.getElem?_cons_zero, List.getElem?_cons_succ, List.set_cons_zero, List.set_cons_succ, Option.join_some, Option.join_none, Option.map_some, List.all_cons, List.all_nil, Value.oneCell', reduceIte, reduceCtorEq, Nat.reduceEqDiff, Nat.reduceAdd, Nat.reduceMul, Nat.reduceLT, Nat.reduceBEq, Nat.reduceLeDiff, Nat.reduceSub, List.size_toArray]
  refine ITri.seq ?_
  rcases hle with hlt | ⟨rfl, hle⟩
  · refine ITri.reg pokT ?_; simp -implicitDefEqProofs (disch := first | decide | exact of_eq_true (eq_true rfl) | omega | assumption) only [decide_true,  ↓vcD, vcE, evs, evP, evB, intsOf, fillC, Value.cells, pt, List.append_nil, List.nil_append, List.cons_append, List.length_cons, List.length_nil, List.filter_nil, List.map_nil, ↓List.getElem?_cons_zero, ↓List.getElem?_cons_succ, List.getElem?_cons_zero, List.getElem?_cons_succ, List.set_cons_zero, List.set_cons_succ, Option.join_some, Option.join_none, Option.map_some, List.all_cons, List.all_nil, Value.oneCell', reduceIte, reduceCtorEq, Nat.reduceEqDiff, Nat.reduceAdd, Nat.reduceMul, Nat.reduceLT, Nat.reduceBEq, Nat.reduceLeDiff, Nat.reduceSub, List.size_toArray]
    refine ⟨_, _, suits_f n L2 tol a1 a2 hLn (by omega) (sees0 rfl (of_decide_eq_true rfl)) (Rd.hq rfl rfl), ?_⟩
    simp -implicitDefEqProofs (disch := first | decide | exact of_eq_true (eq_true rfl) | omega | assumption) only [hsu, hlt, decide_true,  ↓vcD, vcE, evs, evP, evB, intsOf, fillC, Value.cells, pt, List.append_nil, List.nil_append, List.cons_append, List.length_cons, List.length_nil, List.filter_nil, List.map_nil, ↓List.getElem?_cons_zero, ↓List.getElem?_cons_succ, List.getElem?_cons_zero, List.getElem?_cons_succ, List.set_cons_zero, List.set_cons_succ, Option.join_some, Option.join_none, Option.map_some, List.all_cons, List.all_nil, Value.oneCell', reduceIte, reduceCtorEq, Nat.reduceEqDiff, Nat.reduceAdd, Nat.reduceMul, Nat.reduceLT, Nat.reduceBEq, Nat.reduceLeDiff, Nat.reduceSub, List.size_toArray]
    refine ⟨_, _, knownT, ?_⟩
    try simp -implicitDefEqProofs (disch := first | decide | exact of_eq_true (eq_true rfl) | omega | assumption) only [ ↓vcD, vcE, evs, evP, evB, intsOf, fillC, Value.cells, pt, List.append_nil, List.nil_append, List.cons_append, List.length_cons, List.length_nil, List.filter_nil, List.map_nil, ↓List.getElem?_cons_zero, ↓List.getElem?_cons_succ, List.getElem?_cons_zero, List.getElem?_cons_succ, List.set_cons_zero, List.set_cons_succ, Option.join_some, Option.join_none, Option.map_some, List.all_cons, List.all_nil, Value.oneCell', reduceIte, reduceCtorEq, Nat.reduceEqDiff, Nat.reduceAdd, Nat.reduceMul, Nat.reduceLT, Nat.reduceBEq, Nat.reduceLeDiff, Nat.reduceSub, List.size_toArray]
    refine ITri.ret ?_; exact EndR.plain (by simp) (by rfl) (by rfl) (by rfl)
  · refine ITri.reg pokT ?_; simp -implicitDefEqProofs (disch := first | decide | exact of_eq_true (eq_true rfl) | omega | assumption) only [decide_true,  ↓vcD, vcE, evs, evP, evB, intsOf, fillC, Value.cells, pt, List.append_nil, List.nil_append, List.cons_append, List.length_cons, List.length_nil, List.filter_nil, List.map_nil, ↓List.getElem?_cons_zero, ↓List.getElem?_cons_succ, List.getElem?_cons_zero, List.getElem?_cons_succ, List.set_cons_zero, List.set_cons_succ, Option.join_some, Option.join_none, Option.map_some, List.all_cons, List.all_nil, Value.oneCell', reduceIte, reduceCtorEq, Nat.reduceEqDiff, Nat.reduceAdd, Nat.reduceMul, Nat.reduceLT, Nat.reduceBEq, Nat.reduceLeDiff, Nat.reduceSub, List.size_toArray]
    refine ⟨_, _, suits_f n L2 tol b1 a2 hLn (by omega) (sees0 rfl (of_decide_eq_true rfl)) (Rd.hq rfl rfl), ?_⟩
    have hn1 : ¬ b1 < b1 := by omega
    simp -implicitDefEqProofs (disch := first | decide | exact of_eq_true (eq_true rfl) | omega | assumption) only [hsu, hn1, hle, eq_self, decide_true, decide_false,  ↓vcD, vcE, evs, evP, evB, intsOf, fillC, Value.cells, pt, List.append_nil, List.nil_append, List.cons_append, List.length_cons, List.length_nil, List.filter_nil, List.map_nil, ↓List.getElem?_cons_zero, ↓List.getElem?_cons_succ, List.getElem?_cons_zero, List.getElem?_cons_succ, List.set_cons_zero, List.set_cons_succ, Option.join_some, Option.join_none, Option.map_some, List.all_cons, List.all_nil, Value.oneCell', reduceIte, reduceCtorEq, Nat.reduceEqDiff, Nat.reduceAdd, Nat.reduceMul, Nat.reduceLT, Nat.reduceBEq, Nat.reduceLeDiff, Nat.reduceSub, List.size_toArray]
    refine ⟨_, _, knownT, ?_⟩
    try simp -implicitDefEqProofs (disch := first | decide | exact of_eq_true (eq_true rfl) | omega | assumption) only [ ↓vcD, vcE, evs, evP, evB, intsOf, fillC, Value.cells, pt, List.append_nil, List.nil_append, List.cons_append, List.length_cons, List.length_nil, List.filter_nil, List.map_nil, ↓List.getElem?_cons_zero, ↓List.getElem?_cons_succ, List.getElem?_cons_zero, List.getElem?_cons_succ, List.set_cons_zero, List.set_cons_succ, Option.join_some, Option.join_none, Option.map_some, List.all_cons, List.all_nil, Value.oneCell', reduceIte, reduceCtorEq, Nat.reduceEqDiff, Nat.reduceAdd, Nat.reduceMul, Nat.reduceLT, Nat.reduceBEq, Nat.reduceLeDiff, Nat.reduceSub, List.size_toArray]
    refine ITri.ret ?_; exact EndR.plain (by simp) (by rfl) (by rfl) (by rfl)
end Go.Proofs.Ytlkfcbdbieenhaa
