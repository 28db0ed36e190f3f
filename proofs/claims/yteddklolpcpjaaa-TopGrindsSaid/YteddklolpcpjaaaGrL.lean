/-
  Chapters 4 and 7 at the top: the law TopGrinds, by names.
-/
import Derived.Test.YteddklolpcpjaaaGrE
import Derived.Test.YteddklolpcpjaaaGrJ
import Derived.Test.YteddklolpcpjaaaGrK
import Derived.Test.YteddklolpcpjaaaGrKv
set_option linter.unusedSimpArgs false
set_option linter.unusedVariables false
namespace Go.Proofs.Yteddklolpcpjaaa
open Go.RowKit Go.Vm
set_option maxRecDepth 1000000
theorem getP {xs : List (Int × Int)} {i : Nat} (hi : i < xs.length) : (rows eII xs)[i * 2]? = some (.int .i64 (nth xs i).1) ∧ (rows eII xs)[i * 2 + 1]? = some (.int .i64 (nth xs i).2) := by
  have h1 := rows_get (f := eII) (j := 0) hi (by decide)
  have h2 := rows_get (f := eII) (j := 1) hi (by decide)
  exact ⟨h1, h2⟩
/- boule/bouletop.TopGrinds · slots 193 · names 0:p 1:r 2:p 3:r 5:runs 6:e 7:d 8:i 9:t 10:x 11:e 12:s 13:g 14:kept 15:removed 16:f · results [4] -/
def ir4_r0 : IC := .reg [⟨some 2, none, false, .box (.t 0)⟩,
  ⟨some 3, none, false, .box (.t 1)⟩,
  ⟨some 4, none, false, .mv (.k (.bool false))⟩] (some [2, 3])
def ir4_r1 : IC := .reg [⟨some 17, none, false, .fad 0 (.t 3)⟩,
  ⟨some 18, none, false, .ldc (.t 17)⟩,
  ⟨some 19, none, false, .len (.t 18)⟩,
  ⟨some 20, none, false, .cmp .gtr (.t 19) (.k (.int .i64 60))⟩,
  ⟨some 21, none, false, .mv (.t 20)⟩,
  ⟨some 22, some (21, false), false, .fad 2 (.t 3)⟩,
  ⟨some 23, some (21, false), false, .ldc (.t 22)⟩,
  ⟨some 24, some (21, false), false, .len (.t 23)⟩,
  ⟨some 25, some (21, false), false, .cmp .gtr (.t 24) (.k (.int .i64 100))⟩,
  ⟨some 26, none, false, .pick (.t 21) (.k (.bool true)) (.t 25)⟩,
  ⟨some 27, none, false, .mv (.t 26)⟩,
  ⟨some 28, some (27, false), false, .fad 3 (.t 3)⟩,
  ⟨some 29, some (27, false), false, .ldc (.t 28)⟩,
  ⟨some 30, some (27, false), false, .len (.t 29)⟩,
  ⟨some 31, some (27, false), false, .cmp .gtr (.t 30) (.k (.int .i64 20))⟩,
  ⟨some 32, none, false, .pick (.t 27) (.k (.bool true)) (.t 31)⟩,
  ⟨some 33, none, false, .mv (.t 32)⟩,
  ⟨some 34, some (33, false), false, .fad 1 (.t 3)⟩,
  ⟨some 35, some (33, false), false, .ldc (.t 34)⟩,
  ⟨some 36, some (33, false), false, .cmp .gtr (.t 35) (.k (.int .i64 200))⟩,
  ⟨some 37, none, false, .pick (.t 33) (.k (.bool true)) (.t 36)⟩] (some [2, 3, 37])
def ir4_r2 : IC := .reg [⟨some 38, none, false, .call (.f 5) []⟩,
  ⟨some 4, none, false, .mv (.t 38)⟩] (some [4])
def ir4_1 : IC := .seq ir4_r2 .ret
def ir4_2 : IC := .cond (.t 37) ir4_1 .skip
def ir4_3 : IC := .seq ir4_r1 ir4_2
def ir4_r3 : IC := .draw [(⟨some 40, none, false, .lda 117 (.t 2)⟩, false, 0, 1),
  (⟨some 41, none, false, .lda 4 (.t 3)⟩, false, 0, 1),
  (⟨some 42, none, false, .call (.f 7) [(.t 41)]⟩, false, 2, 1),
  (⟨some 43, none, false, .call (.f 9) [(.t 40), (.t 42)]⟩, true, 7, 0),
  (⟨some 39, none, false, .mv (.t 43)⟩, false, 15, 0),
  (⟨some 44, none, false, .ext (.t 39) 0⟩, false, 31, 0),
  (⟨some 45, none, false, .ext (.t 39) 1⟩, false, 31, 0),
  (⟨some 5, none, false, .mv (.t 44)⟩, false, 63, 0),
  (⟨some 6, none, false, .mv (.t 45)⟩, false, 255, 0)] (some [2, 3, 5, 6])
def ir4_r4 : IC := .reg [⟨some 46, none, false, .mv (.t 6)⟩,
  ⟨some 47, none, false, .cmp .neq (.t 46) (.k (.int .i64 0))⟩] (some [2, 3, 5, 47])
def ir4_r5 : IC := .reg [⟨some 48, none, false, .mv (.t 5)⟩,
  ⟨some 49, none, false, .len (.t 48)⟩,
  ⟨some 50, none, false, .cmp .eql (.t 49) (.k (.int .i64 0))⟩,
  ⟨some 51, none, false, .mv (.t 50)⟩,
  ⟨some 52, some (51, true), false, .call (.f 5) []⟩,
  ⟨some 53, none, false, .pick (.t 51) (.t 52) (.k (.bool false))⟩,
  ⟨some 4, none, false, .mv (.t 53)⟩] (some [4])
def ir4_4 : IC := .seq ir4_r5 .ret
def ir4_5 : IC := .cond (.t 47) ir4_4 .skip
def ir4_6 : IC := .seq ir4_r4 ir4_5
def ir4_r6 : IC := .reg [⟨some 54, none, false, .fad 112 (.t 2)⟩,
  ⟨some 55, none, false, .fad 0 (.t 54)⟩,
  ⟨some 56, none, false, .ldc (.t 55)⟩,
  ⟨some 7, none, false, .mv (.t 56)⟩] (some [2, 3, 5, 7])
def ir4_r7 : IC := .reg [⟨some 8, none, false, .mv (.k (.int .i64 0))⟩] (some [2, 3, 5, 7, 8])
def ir4_r8 : IC := .reg [⟨some 57, none, false, .mv (.t 8)⟩,
  ⟨some 58, none, false, .mv (.t 5)⟩,
  ⟨some 59, none, false, .len (.t 58)⟩,
  ⟨some 60, none, false, .cmp .lss (.t 57) (.t 59)⟩] (some [2, 3, 5, 7, 8, 60])
def ir4_7 : IC := .cond (.t 60) .skip (.exit 0)
def ir4_8 : IC := .seq ir4_r8 ir4_7
def ir4_r10 : IC := .draw [(⟨some 63, none, false, .mv (.t 5)⟩, false, 0, 0),
  (⟨some 64, none, false, .mv (.t 8)⟩, false, 0, 0),
  (⟨some 65, none, false, .iad 2 (.t 63) (.t 64)⟩, false, 3, 0),
  (⟨some 66, none, false, .fad 0 (.t 65)⟩, false, 7, 0),
  (⟨some 67, none, false, .ldc (.t 66)⟩, true, 15, 0),
  (⟨some 68, none, false, .cmp .lss (.t 67) (.k (.int .i64 0))⟩, false, 31, 0),
  (⟨some 69, none, false, .mv (.t 68)⟩, false, 63, 0),
  (⟨some 70, some (69, false), false, .mv (.t 5)⟩, false, 127, 0),
  (⟨some 71, some (69, false), false, .mv (.t 8)⟩, false, 127, 0),
  (⟨some 72, some (69, false), false, .iad 2 (.t 70) (.t 71)⟩, false, 511, 0),
  (⟨some 73, some (69, false), false, .fad 1 (.t 72)⟩, false, 1023, 0),
  (⟨some 74, some (69, false), false, .ldc (.t 73)⟩, false, 2047, 1),
  (⟨some 75, some (69, false), false, .fad 1 (.t 3)⟩, false, 127, 0),
  (⟨some 76, some (69, false), false, .ldc (.t 75)⟩, false, 4223, 2048),
  (⟨some 77, some (69, false), false, .cmp .geq (.t 74) (.t 76)⟩, false, 16383, 0),
  (⟨some 78, none, false, .pick (.t 69) (.k (.bool true)) (.t 77)⟩, false, 32767, 0),
  (⟨some 79, none, false, .mv (.t 78)⟩, false, 65535, 0),
  (⟨some 80, some (79, false), false, .mv (.t 5)⟩, false, 131071, 0),
  (⟨some 81, some (79, false), false, .mv (.t 8)⟩, false, 131071, 0),
  (⟨some 82, some (79, false), false, .iad 2 (.t 80) (.t 81)⟩, false, 524287, 0),
  (⟨some 83, some (79, false), false, .fad 0 (.t 82)⟩, false, 1048575, 0),
  (⟨some 84, some (79, false), false, .ldc (.t 83)⟩, false, 2097151, 1),
  (⟨some 85, some (79, false), false, .mv (.t 5)⟩, false, 131071, 0),
  (⟨some 86, some (79, false), false, .mv (.t 8)⟩, false, 131071, 0),
  (⟨some 87, some (79, false), false, .iad 2 (.t 85) (.t 86)⟩, false, 12713983, 0),
  (⟨some 88, some (79, false), false, .fad 1 (.t 87)⟩, false, 29491199, 0),
  (⟨some 89, some (79, false), false, .ldc (.t 88)⟩, false, 63045631, 2097152),
  (⟨some 90, some (79, false), false, .cmp .gtr (.t 84) (.t 89)⟩, false, 134217727, 0),
  (⟨some 91, none, false, .pick (.t 79) (.k (.bool true)) (.t 90)⟩, false, 268435455, 0)] (some [2, 3, 5, 7, 8, 91])
def ir4_r11 : IC := .reg [⟨some 4, none, false, .mv (.k (.bool false))⟩] (some [4])
def ir4_9 : IC := .seq ir4_r11 .ret
def ir4_10 : IC := .cond (.t 91) ir4_9 .skip
def ir4_11 : IC := .seq ir4_r10 ir4_10
def ir4_r12 : IC := .reg [⟨some 92, none, false, .mv (.t 5)⟩,
  ⟨some 93, none, false, .mv (.t 8)⟩,
  ⟨some 94, none, false, .iad 2 (.t 92) (.t 93)⟩,
  ⟨some 95, none, false, .fad 0 (.t 94)⟩,
  ⟨some 96, none, false, .ldc (.t 95)⟩,
  ⟨some 9, none, false, .mv (.t 96)⟩] (some [2, 3, 5, 7, 8, 9])
def ir4_r13 : IC := .reg [⟨some 97, none, false, .mv (.t 9)⟩,
  ⟨some 98, none, false, .mv (.t 5)⟩,
  ⟨some 99, none, false, .mv (.t 8)⟩,
  ⟨some 100, none, false, .iad 2 (.t 98) (.t 99)⟩,
  ⟨some 101, none, false, .fad 1 (.t 100)⟩,
  ⟨some 102, none, false, .ldc (.t 101)⟩,
  ⟨some 103, none, false, .cmp .leq (.t 97) (.t 102)⟩] (some [2, 3, 5, 7, 8, 9, 103])
def ir4_12 : IC := .cond (.t 103) .skip (.exit 2)
def ir4_13 : IC := .seq ir4_r13 ir4_12
def ir4_r15 : IC := .draw [(⟨some 107, none, false, .lda 117 (.t 2)⟩, false, 0, 1),
  (⟨some 108, none, false, .lda 4 (.t 3)⟩, false, 0, 1),
  (⟨some 109, none, false, .call (.f 7) [(.t 108)]⟩, false, 2, 1),
  (⟨some 110, none, false, .mv (.t 9)⟩, false, 0, 0),
  (⟨some 111, none, false, .call (.f 10) [(.t 107), (.t 109), (.t 110)]⟩, false, 15, 1),
  (⟨some 106, none, false, .mv (.t 111)⟩, false, 31, 0),
  (⟨some 112, none, false, .ext (.t 106) 0⟩, false, 63, 0),
  (⟨some 113, none, false, .ext (.t 106) 1⟩, false, 63, 0),
  (⟨some 10, none, false, .alloc [(.int .i64 0), (.int .i64 0)]⟩, false, 0, 16),
  (⟨none, none, false, .st 2 (.t 10) (.t 112)⟩, true, 383, 0),
  (⟨some 11, none, false, .mv (.t 113)⟩, false, 1023, 0)] (some [2, 3, 5, 7, 8, 9, 10, 11])
def ir4_r16 : IC := .reg [⟨some 114, none, false, .mv (.t 11)⟩,
  ⟨some 115, none, false, .cmp .neq (.t 114) (.k (.int .i64 0))⟩] (some [2, 3, 5, 7, 8, 9, 10, 115])
def ir4_r17 : IC := .reg [⟨some 4, none, false, .mv (.k (.bool false))⟩] (some [4])
def ir4_14 : IC := .seq ir4_r17 .ret
def ir4_15 : IC := .cond (.t 115) ir4_14 .skip
def ir4_16 : IC := .seq ir4_r16 ir4_15
def ir4_r18 : IC := .reg [⟨some 116, none, false, .mv (.t 7)⟩,
  ⟨some 117, none, false, .cmp .lss (.t 116) (.k (.int .i64 1))⟩,
  ⟨some 118, none, false, .mv (.t 117)⟩,
  ⟨some 119, some (118, false), false, .fad 1 (.t 10)⟩,
  ⟨some 120, some (118, false), false, .ldc (.t 119)⟩,
  ⟨some 121, some (118, false), false, .cmp .gtr (.t 120) (.k (.int .i64 500000))⟩,
  ⟨some 122, none, false, .pick (.t 118) (.k (.bool true)) (.t 121)⟩] (some [2, 3, 5, 7, 8, 9, 10, 122])
def ir4_17 : IC := .cond (.t 122) (.exit 3) .skip
def ir4_18 : IC := .seq ir4_r18 ir4_17
def ir4_r19 : IC := .reg [⟨some 123, none, false, .lda 2 (.t 10)⟩,
  ⟨some 124, none, false, .bld [(.int .i64 0), (.int .i64 0), (.int .i64 0)] [(0, 1, (.k (.int .i64 1))), (1, 2, (.t 123))]⟩,
  ⟨some 12, none, false, .alloc [(.int .i64 0), (.int .i64 0), (.int .i64 0)]⟩,
  ⟨none, none, false, .st 3 (.t 12) (.t 124)⟩] (some [2, 3, 5, 7, 8, 9, 10, 12])
def ir4_r20 : IC := .reg [⟨some 126, none, false, .lda 3 (.t 12)⟩,
  ⟨some 127, none, false, .bsl 3 1 [(.int .i64 0), (.int .i64 0), (.int .i64 0)] [(0, (.t 126))]⟩,
  ⟨some 128, none, false, .mv (.t 7)⟩,
  ⟨some 129, none, false, .call (.f 11) [(.t 127), (.t 128)]⟩,
  ⟨some 125, none, false, .mv (.t 129)⟩,
  ⟨some 130, none, false, .ext (.t 125) 0⟩,
  ⟨some 131, none, false, .ext (.t 125) 1⟩,
  ⟨some 13, none, false, .mv (.t 130)⟩,
  ⟨some 11, none, false, .mv (.t 131)⟩] (some [2, 3, 5, 7, 8, 9, 10, 11, 12, 13])
def ir4_r21 : IC := .reg [⟨some 133, none, false, .lda 3 (.t 12)⟩,
  ⟨some 134, none, false, .mv (.t 7)⟩,
  ⟨some 135, none, false, .call (.f 12) [(.t 133), (.t 134)]⟩,
  ⟨some 132, none, false, .mv (.t 135)⟩,
  ⟨some 136, none, false, .ext (.t 132) 0⟩,
  ⟨some 137, none, false, .ext (.t 132) 1⟩,
  ⟨some 138, none, false, .ext (.t 132) 2⟩,
  ⟨some 15, none, false, .alloc [(.int .i64 0), (.int .i64 0)]⟩,
  ⟨some 14, none, false, .mv (.t 136)⟩,
  ⟨none, none, false, .st 2 (.t 15) (.t 137)⟩,
  ⟨some 16, none, false, .mv (.t 138)⟩] (some [2, 3, 5, 7, 8, 9, 10, 11, 13, 14, 15, 16])
def ir4_r22 : IC := .reg [⟨some 139, none, false, .mv (.t 11)⟩,
  ⟨some 140, none, false, .cmp .neq (.t 139) (.k (.int .i64 0))⟩,
  ⟨some 141, none, false, .mv (.t 140)⟩,
  ⟨some 142, some (141, false), false, .mv (.t 16)⟩,
  ⟨some 143, some (141, false), false, .cmp .neq (.t 142) (.k (.int .i64 0))⟩,
  ⟨some 144, none, false, .pick (.t 141) (.k (.bool true)) (.t 143)⟩,
  ⟨some 145, none, false, .mv (.t 144)⟩,
  ⟨some 146, some (145, false), false, .mv (.t 13)⟩,
  ⟨some 147, some (145, false), false, .len (.t 146)⟩,
  ⟨some 148, some (145, false), false, .cmp .neq (.t 147) (.k (.int .i64 1))⟩,
  ⟨some 149, none, false, .pick (.t 145) (.k (.bool true)) (.t 148)⟩,
  ⟨some 150, none, false, .mv (.t 149)⟩,
  ⟨some 151, some (150, false), false, .mv (.t 13)⟩,
  ⟨some 152, some (150, false), false, .iad 1 (.t 151) (.k (.int .i64 0))⟩,
  ⟨some 153, some (150, false), false, .ldc (.t 152)⟩,
  ⟨some 154, some (150, false), false, .cmp .neq (.t 153) (.k (.int .u8 1))⟩,
  ⟨some 155, none, false, .pick (.t 150) (.k (.bool true)) (.t 154)⟩,
  ⟨some 156, none, false, .mv (.t 155)⟩,
  ⟨some 157, some (156, false), false, .mv (.t 14)⟩,
  ⟨some 158, some (156, false), false, .mv (.t 7)⟩,
  ⟨some 159, some (156, false), false, .mv (.t 7)⟩,
  ⟨some 160, some (156, false), false, .ar .mul (.t 158) (.t 159)⟩,
  ⟨some 161, some (156, false), false, .cmp .neq (.t 157) (.t 160)⟩,
  ⟨some 162, none, false, .pick (.t 156) (.k (.bool true)) (.t 161)⟩,
  ⟨some 163, none, false, .mv (.t 162)⟩,
  ⟨some 164, some (163, false), false, .fad 0 (.t 15)⟩,
  ⟨some 165, some (163, false), false, .ldc (.t 164)⟩,
  ⟨some 166, some (163, false), false, .fad 0 (.t 10)⟩,
  ⟨some 167, some (163, false), false, .ldc (.t 166)⟩,
  ⟨some 168, some (163, false), false, .fad 0 (.t 10)⟩,
  ⟨some 169, some (163, false), false, .ldc (.t 168)⟩,
  ⟨some 170, some (163, false), false, .ar .mul (.t 167) (.t 169)⟩,
  ⟨some 171, some (163, false), false, .mv (.t 14)⟩,
  ⟨some 172, some (163, false), false, .ar .sub (.t 170) (.t 171)⟩,
  ⟨some 173, some (163, false), false, .cmp .neq (.t 165) (.t 172)⟩,
  ⟨some 174, none, false, .pick (.t 163) (.k (.bool true)) (.t 173)⟩,
  ⟨some 175, none, false, .mv (.t 174)⟩,
  ⟨some 176, some (175, false), false, .fad 1 (.t 15)⟩,
  ⟨some 177, some (175, false), false, .ldc (.t 176)⟩,
  ⟨some 178, some (175, false), false, .fad 1 (.t 10)⟩,
  ⟨some 179, some (175, false), false, .ldc (.t 178)⟩,
  ⟨some 180, some (175, false), false, .fad 1 (.t 10)⟩,
  ⟨some 181, some (175, false), false, .ldc (.t 180)⟩,
  ⟨some 182, some (175, false), false, .ar .mul (.t 179) (.t 181)⟩,
  ⟨some 183, some (175, false), false, .mv (.t 14)⟩,
  ⟨some 184, some (175, false), false, .ar .sub (.t 182) (.t 183)⟩,
  ⟨some 185, some (175, false), false, .cmp .neq (.t 177) (.t 184)⟩,
  ⟨some 186, none, false, .pick (.t 175) (.k (.bool true)) (.t 185)⟩,
  ⟨some 187, none, false, .mv (.t 186)⟩,
  ⟨some 188, some (187, false), false, .fad 0 (.t 15)⟩,
  ⟨some 189, some (187, false), false, .ldc (.t 188)⟩,
  ⟨some 190, some (187, false), false, .cmp .lss (.t 189) (.k (.int .i64 0))⟩,
  ⟨some 191, none, false, .pick (.t 187) (.k (.bool true)) (.t 190)⟩] (some [2, 3, 5, 7, 8, 9, 191])
def ir4_r23 : IC := .reg [⟨some 4, none, false, .mv (.k (.bool false))⟩] (some [4])
def ir4_19 : IC := .seq ir4_r23 .ret
def ir4_20 : IC := .cond (.t 191) ir4_19 .skip
def ir4_21 : IC := .seq ir4_r22 ir4_20
def ir4_22 : IC := .seq ir4_r21 ir4_21
def ir4_23 : IC := .seq ir4_r20 ir4_22
def ir4_24 : IC := .seq ir4_r19 ir4_23
def ir4_25 : IC := .seq ir4_18 ir4_24
def ir4_26 : IC := .seq ir4_16 ir4_25
def ir4_27 : IC := .seq ir4_r15 ir4_26
def ir4_28 : IC := .block 3 ir4_27
def ir4_r14 : IC := .reg [⟨some 104, none, false, .mv (.t 9)⟩,
  ⟨some 105, none, false, .ar .add (.t 104) (.k (.int .i64 1))⟩,
  ⟨some 9, none, false, .mv (.t 105)⟩] (some [2, 3, 5, 7, 8, 9])
def ir4_29 : IC := .seq ir4_28 ir4_r14
def ir4_30 : IC := .seq ir4_13 ir4_29
def ir4_31 : IC := .loop ir4_30
def ir4_32 : IC := .block 2 ir4_31
def ir4_33 : IC := .seq ir4_r12 ir4_32
def ir4_34 : IC := .seq ir4_11 ir4_33
def ir4_35 : IC := .block 1 ir4_34
def ir4_r9 : IC := .reg [⟨some 61, none, false, .mv (.t 8)⟩,
  ⟨some 62, none, false, .ar .add (.t 61) (.k (.int .i64 1))⟩,
  ⟨some 8, none, false, .mv (.t 62)⟩] (some [2, 3, 5, 7, 8])
def ir4_36 : IC := .seq ir4_35 ir4_r9
def ir4_37 : IC := .seq ir4_8 ir4_36
def ir4_38 : IC := .loop ir4_37
def ir4_39 : IC := .block 0 ir4_38
def ir4_40 : IC := .seq ir4_r7 ir4_39
def ir4_r24 : IC := .reg [⟨some 192, none, false, .call (.f 5) []⟩,
  ⟨some 4, none, false, .mv (.t 192)⟩] (some [4])
def ir4_41 : IC := .seq ir4_r24 .ret
def ir4_42 : IC := .seq ir4_40 ir4_41
def ir4_43 : IC := .seq ir4_r6 ir4_42
def ir4_44 : IC := .seq ir4_6 ir4_43
def ir4_45 : IC := .seq ir4_r3 ir4_44
def ir4_46 : IC := .seq ir4_3 ir4_45
def ir4_47 : IC := .seq ir4_r0 ir4_46
def ir4 : IC := ir4_47
theorem fn4 : FnIs Try.prog 4 ir4 193 [.tmp 4] := ⟨Try.f4, Try.f4.body.getD .skip, Try.func4, by kernel_rfl, by kernel_rfl, by kernel_rfl, by kernel_rfl⟩
section
variable {T : List St} {S : List Sm} {X : List (Int × Int)} {nT nS nX cT cS cX N : Nat} {ps : List Int} {E e : Int}
set_option maxHeartbeats 4000000 in
theorem grinds_loop (hT : T.length = nT) (hS : S.length = nS) (hX : X.length = nX) (G : GoodC ps T S X N) (b1 : nT ≤ 1000) (b2 : nS ≤ 1000) (b3 : nX ≤ 1000) {L : List (Int × Int)} (hL : L = rnL ps (BLs ps S N) (FLs ps S N) N) :
    ITri Try.prog 193 none 4 ir4_42 [(2, pt 4), (3, pt 5), (5, sO 6 L.length), (7, I6 (nth ps 112))] [] (Hp 4 [none, some (.cells ⟨rows eT T, 0, false⟩), some (.cells ⟨rows eM S, 0, false⟩), some (.cells ⟨rows eII X, 0, false⟩), some (.cells ⟨rows eI ps, 1, false⟩), some (.cells ⟨[s1 nT cT, I6 N, s2 nS cS, s3 nX cX], 1, false⟩), some (.cells ⟨rows eII L, 2, true⟩)]) (EndR Try.prog [.tmp 4] 4 [] (.bool true)) := by
  have hl := G.pl
  have hN := G.n
  have t117 := takeC_0 (rows eI ps) 117 (by rw [rows_len (f := eI), hl])
  have hok := rn_ok (accF ps (BLs ps S N) (FLs ps S N)) N
  have hlim := rg_1 G.p.l
  have hrun : ∀ i, i < L.length → 0 ≤ (nth L i).1 ∧ (nth L i).1 ≤ (nth L i).2 ∧ (nth L i).2 < N ∧ ∀ x : Nat, (nth L i).1 ≤ x → (x : Int) ≤ (nth L i).2 → accF ps (BLs ps S N) (FLs ps S N) x = true := fun i hi => by rw [hL] at hi ⊢; exact hok.all i hi
  have hle : L.length ≤ N := by rw [hL]; exact hok.le
  have hacc := fun t ht ha => G.acc (t := t) ht ha
  have FB := fun {h : AH} {k1 k2 k3 z1 z2 z3 : Nat} {o1 o2 o3 : Bool} {t : Nat} ht h0S h0 g1 g2 g3 => between_f (h := h) (k1 := k1) (k2 := k2) (k3 := k3) (z1 := z1) (z2 := z2) (z3 := z3) (o1 := o1) (o2 := o2) (o3 := o3) (t := t) hT hS hX G ht h0S h0 g1 g2 g3
  clear hL hok
  generalize accF ps (BLs ps S N) (FLs ps S N) = ac at *
  generalize btwF ps (BLs ps S N) (FLs ps S N) = bt at *
  generalize nth ps 112 = d at *
  generalize nth ps 113 = top at *
  refine ITri.seq ?_
  refine ITri.seq ?_
  refine ITri.reg pok ?_; simp -implicitDefEqProofs (disch := first | decide | exact of_eq_true (eq_true rfl) | omega | assumption) only [ ↓vcD, vcE, ↓vcG, vcF, evs, evP, evB, intsOf, fillC, Value.cells, pt, Value.oneCell', reduceIte, reduceCtorEq, Nat.reduceEqDiff, Nat.reduceAdd, Nat.reduceMul, Nat.reduceLT, Nat.reduceBEq, Nat.reduceLeDiff, Nat.reduceSub] -- r7
  refine ITri.block ?_ -- 0
  refine ITri.loop (fun k : Nat => [(2, pt 4), (3, pt 5), (5, sO 6 L.length), (7, I6 d), (8, .int .i64 k)]) (fun _ => []) (fun k => Hp 4 [none, some (.cells ⟨rows eT T, 0, false⟩), some (.cells ⟨rows eM S, 0, false⟩), some (.cells ⟨rows eII X, 0, false⟩), some (.cells ⟨rows eI ps, 1, false⟩), some (.cells ⟨[s1 nT cT, I6 N, s2 nS cS, s3 nX cX], 1, false⟩), some (.cells ⟨rows eII L, 2, true⟩)]) (fun k => k ≤ L.length) (fun k => L.length - k) 0 (Nat.zero_le _) (Wk.sub ⟨rfl, rfl, rfl, rfl, rfl, trivial⟩) fun i hi => ?_
  refine ITri.seq ?_
  refine ITri.seq ?_
  refine ITri.reg pok ?_; simp -implicitDefEqProofs (disch := first | decide | exact of_eq_true (eq_true rfl) | omega | assumption) only [ ↓vcD, vcE, ↓vcG, vcF, evs, evP, evB, intsOf, fillC, Value.cells, pt, Value.oneCell', reduceIte, reduceCtorEq, Nat.reduceEqDiff, Nat.reduceAdd, Nat.reduceMul, Nat.reduceLT, Nat.reduceBEq, Nat.reduceLeDiff, Nat.reduceSub] -- r8
  refine ITri.condD (by rfl) (fun h4 => ?_) (fun h4 => ?_) -- %60
  · have him : i < L.length := by omega
    have g1 := getP (xs := L) him
    have hr := hrun i him
    have hi1 : (i : Int) + 1 = ((i + 1 : Nat) : Int) := by omega
    obtain ⟨gl, gh⟩ := g1
    obtain ⟨x, hx⟩ : ∃ x : Nat, (nth L i).1 = x := ⟨(nth L i).1.toNat, by omega⟩
    obtain ⟨y, hy⟩ : ∃ y : Nat, (nth L i).2 = y := ⟨(nth L i).2.toNat, by omega⟩
    rw [hx] at gl
    rw [hy] at gh
    rw [hx, hy] at hr
    obtain ⟨r1, r2, r3, r4⟩ := hr
    have c1 : ¬ (x : Int) < 0 := by omega
    have c2 : ¬ (y : Int) ≥ N := by omega
    have c3 : ¬ (x : Int) > y := by omega
    refine ITri.skip ?_; simp only [SeqQ_normal, BlkQ_normal]
    refine ITri.seq ?_
    refine ITri.block ?_ -- 1
    refine ITri.seq ?_
    refine ITri.seq ?_
    refine ITri.draw pok ?_; simp -implicitDefEqProofs (disch := first | decide | exact of_eq_true (eq_true rfl) | omega | assumption) only [gl, gh, c1, c2, c3, decide_false,  ↓vcD, vcE, ↓vcG, vcF, evs, evP, evB, intsOf, fillC, Value.cells, pt, Value.oneCell', reduceIte, reduceCtorEq, Nat.reduceEqDiff, Nat.reduceAdd, Nat.reduceMul, Nat.reduceLT, Nat.reduceBEq, Nat.reduceLeDiff, Nat.reduceSub] -- r10
    refine ITri.cond (v := false) rfl (fun h => by cases h) (fun _ => ?_); refine ITri.skip ?_; simp only [SeqQ_normal, BlkQ_normal]
    refine ITri.seq ?_
    refine ITri.reg pok ?_; simp -implicitDefEqProofs (disch := first | decide | exact of_eq_true (eq_true rfl) | omega | assumption) only [gl,  ↓vcD, vcE, ↓vcG, vcF, evs, evP, evB, intsOf, fillC, Value.cells, pt, Value.oneCell', reduceIte, reduceCtorEq, Nat.reduceEqDiff, Nat.reduceAdd, Nat.reduceMul, Nat.reduceLT, Nat.reduceBEq, Nat.reduceLeDiff, Nat.reduceSub] -- r12
    refine ITri.block ?_ -- 2
    refine ITri.loop (fun t : Nat => [(2, pt 4), (3, pt 5), (5, sO 6 L.length), (7, I6 d), (8, .int .i64 i), (9, .int .i64 t)]) (fun _ => []) (fun t => Hp 4 [none, some (.cells ⟨rows eT T, 0, false⟩), some (.cells ⟨rows eM S, 0, false⟩), some (.cells ⟨rows eII X, 0, false⟩), some (.cells ⟨rows eI ps, 1, false⟩), some (.cells ⟨[s1 nT cT, I6 N, s2 nS cS, s3 nX cX], 1, false⟩), some (.cells ⟨rows eII L, 2, true⟩)]) (fun t => x ≤ t ∧ t ≤ y + 1) (fun t => y + 1 - t) x ⟨Nat.le_refl _, by omega⟩ (Wk.sub ⟨rfl, rfl, rfl, rfl, rfl, rfl, trivial⟩) fun t ht => ?_
    obtain ⟨ht1, ht2⟩ := ht
    refine ITri.seq ?_
    refine ITri.seq ?_
    refine ITri.reg pok ?_; simp -implicitDefEqProofs (disch := first | decide | exact of_eq_true (eq_true rfl) | omega | assumption) only [gh,  ↓vcD, vcE, ↓vcG, vcF, evs, evP, evB, intsOf, fillC, Value.cells, pt, Value.oneCell', reduceIte, reduceCtorEq, Nat.reduceEqDiff, Nat.reduceAdd, Nat.reduceMul, Nat.reduceLT, Nat.reduceBEq, Nat.reduceLeDiff, Nat.reduceSub] -- r13
    refine ITri.condD (by rfl) (fun h7 => ?_) (fun h7 => ?_) -- %103
    · have hty : t ≤ y := by omega
      have hA := r4 t (by omega) (by omega)
      obtain ⟨q1, q2, q3, q4⟩ := hacc t (by omega) hA
      have FB' := fun {h : AH} {k1 k2 k3 z1 z2 z3 : Nat} {o1 o2 o3 : Bool} h0 g1 g2 g3 => FB (h := h) (k1 := k1) (k2 := k2) (k3 := k3) (z1 := z1) (z2 := z2) (z3 := z3) (o1 := o1) (o2 := o2) (o3 := o3) (t := t) (by omega) q4 h0 g1 g2 g3
      have ht1' : (t : Int) + 1 = ((t + 1 : Nat) : Int) := by omega
      generalize (bt t).l = lo at *
      generalize (bt t).h = hi' at *
      have w2 : ∀ a b z0 z1 : Value, writeAt [z0, z1] 0 [a, b] = [a, b] := fun a b z0 z1 => rfl
      have w33 : ∀ z0 z1 z2 a0 a1 a2 : Value, writeAt [z0, z1, z2] 0 [a0, a1, a2] = [a0, a1, a2] := fun z0 z1 z2 a0 a1 a2 => rfl
      have w12 : ∀ z0 z1 z2 a1 a2 : Value, writeAt [z0, z1, z2] 1 [a1, a2] = [z0, a1, a2] := fun z0 z1 z2 a1 a2 => rfl
      refine ITri.skip ?_; simp only [SeqQ_normal, BlkQ_normal]
      refine ITri.seq ?_
      refine ITri.cut (fun _ : Unit => [(2, pt 4), (3, pt 5), (5, sO 6 L.length), (7, I6 d), (8, .int .i64 i), (9, .int .i64 t)]) (fun _ => []) (fun _ => Hp 4 [none, some (.cells ⟨rows eT T, 0, false⟩), some (.cells ⟨rows eM S, 0, false⟩), some (.cells ⟨rows eII X, 0, false⟩), some (.cells ⟨rows eI ps, 1, false⟩), some (.cells ⟨[s1 nT cT, I6 N, s2 nS cS, s3 nX cX], 1, false⟩), some (.cells ⟨rows eII L, 2, true⟩)]) (fun _ => True) ?_ (fun _ _ => ?_)
      · refine ITri.block ?_ -- 3
        refine ITri.seq ?_
        refine ITri.draw pok ?_; simp -implicitDefEqProofs (disch := first | decide | exact of_eq_true (eq_true rfl) | omega | assumption) only [t117,  ↓vcD, vcE, ↓vcG, vcF, evs, evP, evB, intsOf, fillC, Value.cells, pt, Value.oneCell', reduceIte, reduceCtorEq, Nat.reduceEqDiff, Nat.reduceAdd, Nat.reduceMul, Nat.reduceLT, Nat.reduceBEq, Nat.reduceLeDiff, Nat.reduceSub] -- r15
        refine ⟨_, _, runOf_f hT hS hX b1 b2 b3 (sees0 rfl (of_decide_eq_true rfl)) (Rd.hq rfl rfl) (Rd.hq rfl rfl) (Rd.hq rfl rfl), ?_⟩
        simp -implicitDefEqProofs (disch := first | decide | exact of_eq_true (eq_true rfl) | omega | assumption) only [news_c, news_n,  ↓vcD, vcE, ↓vcG, vcF, evs, evP, evB, intsOf, fillC, Value.cells, pt, Value.oneCell', reduceIte, reduceCtorEq, Nat.reduceEqDiff, Nat.reduceAdd, Nat.reduceMul, Nat.reduceLT, Nat.reduceBEq, Nat.reduceLeDiff, Nat.reduceSub]
        refine ⟨_, _, FB' (sees0 rfl (of_decide_eq_true rfl)) (get_hq rfl rfl) (get_hq rfl rfl) (get_hq rfl rfl), ?_⟩
        simp -implicitDefEqProofs (disch := first | decide | exact of_eq_true (eq_true rfl) | omega | assumption) only [w2,  ↓vcD, vcE, ↓vcG, vcF, evs, evP, evB, intsOf, fillC, Value.cells, pt, Value.oneCell', reduceIte, reduceCtorEq, Nat.reduceEqDiff, Nat.reduceAdd, Nat.reduceMul, Nat.reduceLT, Nat.reduceBEq, Nat.reduceLeDiff, Nat.reduceSub]
        refine ITri.seq ?_
        refine ITri.seq ?_
        refine ITri.reg pok ?_; simp -implicitDefEqProofs (disch := first | decide | exact of_eq_true (eq_true rfl) | omega | assumption) only [decide_true, Bool.not_true,  ↓vcD, vcE, ↓vcG, vcF, evs, evP, evB, intsOf, fillC, Value.cells, pt, Value.oneCell', reduceIte, reduceCtorEq, Nat.reduceEqDiff, Nat.reduceAdd, Nat.reduceMul, Nat.reduceLT, Nat.reduceBEq, Nat.reduceLeDiff, Nat.reduceSub] -- r16
        refine ITri.cond (v := false) rfl (fun h => by cases h) (fun _ => ?_); refine ITri.skip ?_; simp only [SeqQ_normal, BlkQ_normal]
        refine ITri.seq ?_
        refine ITri.seq ?_
        by_cases d1 : d < 1
        · refine ITri.reg pok ?_; simp -implicitDefEqProofs (disch := first | decide | exact of_eq_true (eq_true rfl) | omega | assumption) only [d1, decide_true,  ↓vcD, vcE, ↓vcG, vcF, evs, evP, evB, intsOf, fillC, Value.cells, pt, Value.oneCell', reduceIte, reduceCtorEq, Nat.reduceEqDiff, Nat.reduceAdd, Nat.reduceMul, Nat.reduceLT, Nat.reduceBEq, Nat.reduceLeDiff, Nat.reduceSub] -- r18
          refine ITri.cond (v := true) rfl (fun _ => ?_) (fun h => by cases h)
          refine ITri.exit ?_; try simp -implicitDefEqProofs (disch := first | decide | exact of_eq_true (eq_true rfl) | omega | assumption) only [ ↓vcD, vcE, ↓vcG, vcF, evs, evP, evB, intsOf, fillC, Value.cells, pt, Value.oneCell', reduceIte, reduceCtorEq, Nat.reduceEqDiff, Nat.reduceAdd, Nat.reduceMul, Nat.reduceLT, Nat.reduceBEq, Nat.reduceLeDiff, Nat.reduceSub]
          exact CutQ.mk () trivial (Wk.gc [0, 1, 2, 3, 4, 5, 6] [] (of_decide_eq_true rfl) (of_decide_eq_true rfl) rfl rfl (of_decide_eq_true rfl) rfl rfl (by repeat (first | exact xiOK_nil | refine xiOK_cons (by first | trivial | exact roomOK _ (by decide)) ?_)) rfl (by simp -implicitDefEqProofs (disch := first | decide | exact of_eq_true (eq_true rfl) | omega | assumption) only [ objOK, sgL, xiL, objAt, nilO, OM, mvL, mv, mvS, okS, okP, mvL_rows, okML, okM, okML_rows, List.getElem?_cons_zero, Option.getD_some, implies_true, imp_self, ne_eq, and_self, true_or, or_true, Nat.zero_mul, Nat.sub_self, openB_self, ↓vcD, vcE, ↓vcG, vcF, evs, evP, evB, intsOf, fillC, Value.cells, pt, Value.oneCell', reduceIte, reduceCtorEq, Nat.reduceEqDiff, Nat.reduceAdd, Nat.reduceMul, Nat.reduceLT, Nat.reduceBEq, Nat.reduceLeDiff, Nat.reduceSub]) (by simp -implicitDefEqProofs (disch := first | decide | exact of_eq_true (eq_true rfl) | omega | assumption) only [ valOK, sgL, xiL, mv, mvA, mvL, mvS, okS, okP, okM, okMA, okML, Option.getD_some, implies_true, and_self, true_or, or_true, Int.natCast_add, Int.cast_ofNat_Int, Nat.zero_mul, Nat.sub_self, openB_self, ↓vcD, vcE, ↓vcG, vcF, evs, evP, evB, intsOf, fillC, Value.cells, pt, Value.oneCell', reduceIte, reduceCtorEq, Nat.reduceEqDiff, Nat.reduceAdd, Nat.reduceMul, Nat.reduceLT, Nat.reduceBEq, Nat.reduceLeDiff, Nat.reduceSub]) (fun _ h => by cases h) ⟨rfl, fun _ h => by cases h⟩)
        by_cases d2 : hi' > 500000
        · refine ITri.reg pok ?_; simp -implicitDefEqProofs (disch := first | decide | exact of_eq_true (eq_true rfl) | omega | assumption) only [d1, d2, decide_true, decide_false,  ↓vcD, vcE, ↓vcG, vcF, evs, evP, evB, intsOf, fillC, Value.cells, pt, Value.oneCell', reduceIte, reduceCtorEq, Nat.reduceEqDiff, Nat.reduceAdd, Nat.reduceMul, Nat.reduceLT, Nat.reduceBEq, Nat.reduceLeDiff, Nat.reduceSub] -- r18
          refine ITri.cond (v := true) rfl (fun _ => ?_) (fun h => by cases h)
          refine ITri.exit ?_; try simp -implicitDefEqProofs (disch := first | decide | exact of_eq_true (eq_true rfl) | omega | assumption) only [ ↓vcD, vcE, ↓vcG, vcF, evs, evP, evB, intsOf, fillC, Value.cells, pt, Value.oneCell', reduceIte, reduceCtorEq, Nat.reduceEqDiff, Nat.reduceAdd, Nat.reduceMul, Nat.reduceLT, Nat.reduceBEq, Nat.reduceLeDiff, Nat.reduceSub]
          exact CutQ.mk () trivial (Wk.gc [0, 1, 2, 3, 4, 5, 6] [] (of_decide_eq_true rfl) (of_decide_eq_true rfl) rfl rfl (of_decide_eq_true rfl) rfl rfl (by repeat (first | exact xiOK_nil | refine xiOK_cons (by first | trivial | exact roomOK _ (by decide)) ?_)) rfl (by simp -implicitDefEqProofs (disch := first | decide | exact of_eq_true (eq_true rfl) | omega | assumption) only [ objOK, sgL, xiL, objAt, nilO, OM, mvL, mv, mvS, okS, okP, mvL_rows, okML, okM, okML_rows, List.getElem?_cons_zero, Option.getD_some, implies_true, imp_self, ne_eq, and_self, true_or, or_true, Nat.zero_mul, Nat.sub_self, openB_self, ↓vcD, vcE, ↓vcG, vcF, evs, evP, evB, intsOf, fillC, Value.cells, pt, Value.oneCell', reduceIte, reduceCtorEq, Nat.reduceEqDiff, Nat.reduceAdd, Nat.reduceMul, Nat.reduceLT, Nat.reduceBEq, Nat.reduceLeDiff, Nat.reduceSub]) (by simp -implicitDefEqProofs (disch := first | decide | exact of_eq_true (eq_true rfl) | omega | assumption) only [ valOK, sgL, xiL, mv, mvA, mvL, mvS, okS, okP, okM, okMA, okML, Option.getD_some, implies_true, and_self, true_or, or_true, Int.natCast_add, Int.cast_ofNat_Int, Nat.zero_mul, Nat.sub_self, openB_self, ↓vcD, vcE, ↓vcG, vcF, evs, evP, evB, intsOf, fillC, Value.cells, pt, Value.oneCell', reduceIte, reduceCtorEq, Nat.reduceEqDiff, Nat.reduceAdd, Nat.reduceMul, Nat.reduceLT, Nat.reduceBEq, Nat.reduceLeDiff, Nat.reduceSub]) (fun _ h => by cases h) ⟨rfl, fun _ h => by cases h⟩)
        refine ITri.reg pok ?_; simp -implicitDefEqProofs (disch := first | decide | exact of_eq_true (eq_true rfl) | omega | assumption) only [d1, d2, decide_false,  ↓vcD, vcE, ↓vcG, vcF, evs, evP, evB, intsOf, fillC, Value.cells, pt, Value.oneCell', reduceIte, reduceCtorEq, Nat.reduceEqDiff, Nat.reduceAdd, Nat.reduceMul, Nat.reduceLT, Nat.reduceBEq, Nat.reduceLeDiff, Nat.reduceSub] -- r18
        refine ITri.cond (v := false) rfl (fun h => by cases h) (fun _ => ?_); refine ITri.skip ?_; simp only [SeqQ_normal, BlkQ_normal]
        have m0 : 0 ≤ d * d := Int.mul_nonneg (by omega) (by omega)
        have m1 : d * d ≤ 500000 * 500000 := Int.mul_le_mul (by omega) (by omega) (by omega) (by omega)
        have l0 : d * d ≤ lo * lo := Int.mul_le_mul (by omega) (by omega) (by omega) (by omega)
        have l1 : lo * lo ≤ 500000 * 500000 := Int.mul_le_mul (by omega) (by omega) (by omega) (by omega)
        have k0 : 0 ≤ hi' * hi' := Int.mul_nonneg (by omega) (by omega)
        have k1 : hi' * hi' ≤ 500000 * 500000 := Int.mul_le_mul (by omega) (by omega) (by omega) (by omega)
        have F1 := fun {h : AH} {s : Value} h0 r => round_f (h := h) (s := s) (show 1 ≤ d by omega) q1 q2 (by omega) h0 r
        have F2 := fun {h : AH} h0 => grind_f (h := h) (show 1 ≤ d by omega) q1 q2 (by omega) h0
        refine ITri.seq ?_
        refine ITri.reg pok ?_; simp -implicitDefEqProofs (disch := first | decide | exact of_eq_true (eq_true rfl) | omega | assumption) only [w12, w33,  ↓vcD, vcE, ↓vcG, vcF, evs, evP, evB, intsOf, fillC, Value.cells, pt, Value.oneCell', reduceIte, reduceCtorEq, Nat.reduceEqDiff, Nat.reduceAdd, Nat.reduceMul, Nat.reduceLT, Nat.reduceBEq, Nat.reduceLeDiff, Nat.reduceSub] -- r19
        refine ITri.seq ?_
        refine ITri.reg pok ?_; simp -implicitDefEqProofs (disch := first | decide | exact of_eq_true (eq_true rfl) | omega | assumption) only [ ↓vcD, vcE, ↓vcG, vcF, evs, evP, evB, intsOf, fillC, Value.cells, pt, Value.oneCell', reduceIte, reduceCtorEq, Nat.reduceEqDiff, Nat.reduceAdd, Nat.reduceMul, Nat.reduceLT, Nat.reduceBEq, Nat.reduceLeDiff, Nat.reduceSub] -- r20
        refine ⟨_, _, F1 (sees0 rfl (of_decide_eq_true rfl)) (Rd.hq rfl rfl), ?_⟩
        simp -implicitDefEqProofs (disch := first | decide | exact of_eq_true (eq_true rfl) | omega | assumption) only [news_c, news_n,  ↓vcD, vcE, ↓vcG, vcF, evs, evP, evB, intsOf, fillC, Value.cells, pt, Value.oneCell', reduceIte, reduceCtorEq, Nat.reduceEqDiff, Nat.reduceAdd, Nat.reduceMul, Nat.reduceLT, Nat.reduceBEq, Nat.reduceLeDiff, Nat.reduceSub]
        refine ITri.seq ?_
        refine ITri.reg pok ?_; simp -implicitDefEqProofs (disch := first | decide | exact of_eq_true (eq_true rfl) | omega | assumption) only [ ↓vcD, vcE, ↓vcG, vcF, evs, evP, evB, intsOf, fillC, Value.cells, pt, Value.oneCell', reduceIte, reduceCtorEq, Nat.reduceEqDiff, Nat.reduceAdd, Nat.reduceMul, Nat.reduceLT, Nat.reduceBEq, Nat.reduceLeDiff, Nat.reduceSub] -- r21
        refine ⟨_, _, F2 (sees0 rfl (of_decide_eq_true rfl)), ?_⟩
        simp -implicitDefEqProofs (disch := first | decide | exact of_eq_true (eq_true rfl) | omega | assumption) only [w2,  ↓vcD, vcE, ↓vcG, vcF, evs, evP, evB, intsOf, fillC, Value.cells, pt, Value.oneCell', reduceIte, reduceCtorEq, Nat.reduceEqDiff, Nat.reduceAdd, Nat.reduceMul, Nat.reduceLT, Nat.reduceBEq, Nat.reduceLeDiff, Nat.reduceSub]
        refine ITri.seq ?_
        have e11 : (((1 : Nat) : Int) = 1) = True := eq_true rfl
        have e1u : ((1 : Int) = 1) = True := eq_true rfl
        have n0 : ¬ lo * lo - d * d < 0 := by omega
        refine ITri.reg pok ?_; simp (maxSteps := 2000000) -implicitDefEqProofs (disch := first | decide | exact of_eq_true (eq_true rfl) | omega | assumption) only [Int.toNat_zero, List.getElem?_cons_zero, e11, eq_self, decide_true, Bool.not_true, n0, decide_false,  ↓vcD, vcE, ↓vcG, vcF, evs, evP, evB, intsOf, fillC, Value.cells, pt, Value.oneCell', reduceIte, reduceCtorEq, Nat.reduceEqDiff, Nat.reduceAdd, Nat.reduceMul, Nat.reduceLT, Nat.reduceBEq, Nat.reduceLeDiff, Nat.reduceSub] -- r22
        refine ITri.cond (v := false) rfl (fun h => by cases h) (fun _ => ?_); refine ITri.skip ?_
        try simp -implicitDefEqProofs (disch := first | decide | exact of_eq_true (eq_true rfl) | omega | assumption) only [ ↓vcD, vcE, ↓vcG, vcF, evs, evP, evB, intsOf, fillC, Value.cells, pt, Value.oneCell', reduceIte, reduceCtorEq, Nat.reduceEqDiff, Nat.reduceAdd, Nat.reduceMul, Nat.reduceLT, Nat.reduceBEq, Nat.reduceLeDiff, Nat.reduceSub]
        exact CutQ.mk () trivial (Wk.gc [0, 1, 2, 3, 4, 5, 6] [] (of_decide_eq_true rfl) (of_decide_eq_true rfl) rfl rfl (of_decide_eq_true rfl) rfl rfl (by repeat (first | exact xiOK_nil | refine xiOK_cons (by first | trivial | exact roomOK _ (by decide)) ?_)) rfl (by simp -implicitDefEqProofs (disch := first | decide | exact of_eq_true (eq_true rfl) | omega | assumption) only [ objOK, sgL, xiL, objAt, nilO, OM, mvL, mv, mvS, okS, okP, mvL_rows, okML, okM, okML_rows, List.getElem?_cons_zero, Option.getD_some, implies_true, imp_self, ne_eq, and_self, true_or, or_true, Nat.zero_mul, Nat.sub_self, openB_self, ↓vcD, vcE, ↓vcG, vcF, evs, evP, evB, intsOf, fillC, Value.cells, pt, Value.oneCell', reduceIte, reduceCtorEq, Nat.reduceEqDiff, Nat.reduceAdd, Nat.reduceMul, Nat.reduceLT, Nat.reduceBEq, Nat.reduceLeDiff, Nat.reduceSub]) (by simp -implicitDefEqProofs (disch := first | decide | exact of_eq_true (eq_true rfl) | omega | assumption) only [ valOK, sgL, xiL, mv, mvA, mvL, mvS, okS, okP, okM, okMA, okML, Option.getD_some, implies_true, and_self, true_or, or_true, Int.natCast_add, Int.cast_ofNat_Int, Nat.zero_mul, Nat.sub_self, openB_self, ↓vcD, vcE, ↓vcG, vcF, evs, evP, evB, intsOf, fillC, Value.cells, pt, Value.oneCell', reduceIte, reduceCtorEq, Nat.reduceEqDiff, Nat.reduceAdd, Nat.reduceMul, Nat.reduceLT, Nat.reduceBEq, Nat.reduceLeDiff, Nat.reduceSub]) (fun _ h => by cases h) ⟨rfl, fun _ h => by cases h⟩)
      refine ITri.reg pok ?_; simp -implicitDefEqProofs (disch := first | decide | exact of_eq_true (eq_true rfl) | omega | assumption) only [ht1',  ↓vcD, vcE, ↓vcG, vcF, evs, evP, evB, intsOf, fillC, Value.cells, pt, Value.oneCell', reduceIte, reduceCtorEq, Nat.reduceEqDiff, Nat.reduceAdd, Nat.reduceMul, Nat.reduceLT, Nat.reduceBEq, Nat.reduceLeDiff, Nat.reduceSub] -- r14
      exact LoopQ.next (t + 1) ⟨by omega, by omega⟩ (by omega) (Wk.sub ⟨rfl, rfl, rfl, rfl, rfl, rfl, trivial⟩)
    refine ITri.exit ?_; try simp -implicitDefEqProofs (disch := first | decide | exact of_eq_true (eq_true rfl) | omega | assumption) only [ ↓vcD, vcE, ↓vcG, vcF, evs, evP, evB, intsOf, fillC, Value.cells, pt, Value.oneCell', reduceIte, reduceCtorEq, Nat.reduceEqDiff, Nat.reduceAdd, Nat.reduceMul, Nat.reduceLT, Nat.reduceBEq, Nat.reduceLeDiff, Nat.reduceSub] -- exit 2
    refine ITri.reg pok ?_; simp -implicitDefEqProofs (disch := first | decide | exact of_eq_true (eq_true rfl) | omega | assumption) only [hi1,  ↓vcD, vcE, ↓vcG, vcF, evs, evP, evB, intsOf, fillC, Value.cells, pt, Value.oneCell', reduceIte, reduceCtorEq, Nat.reduceEqDiff, Nat.reduceAdd, Nat.reduceMul, Nat.reduceLT, Nat.reduceBEq, Nat.reduceLeDiff, Nat.reduceSub] -- r9
    exact LoopQ.next (i + 1) (by omega) (by omega) (Wk.sub ⟨rfl, rfl, rfl, rfl, rfl, trivial⟩)
  refine ITri.exit ?_; try simp -implicitDefEqProofs (disch := first | decide | exact of_eq_true (eq_true rfl) | omega | assumption) only [ ↓vcD, vcE, ↓vcG, vcF, evs, evP, evB, intsOf, fillC, Value.cells, pt, Value.oneCell', reduceIte, reduceCtorEq, Nat.reduceEqDiff, Nat.reduceAdd, Nat.reduceMul, Nat.reduceLT, Nat.reduceBEq, Nat.reduceLeDiff, Nat.reduceSub] -- exit 0
  refine ITri.seq ?_
  refine ITri.reg pok ?_; simp -implicitDefEqProofs (disch := first | decide | exact of_eq_true (eq_true rfl) | omega | assumption) only [ ↓vcD, vcE, ↓vcG, vcF, evs, evP, evB, intsOf, fillC, Value.cells, pt, Value.oneCell', reduceIte, reduceCtorEq, Nat.reduceEqDiff, Nat.reduceAdd, Nat.reduceMul, Nat.reduceLT, Nat.reduceBEq, Nat.reduceLeDiff, Nat.reduceSub] -- r24
  refine ⟨_, _, cropped_f, ?_⟩
  try simp -implicitDefEqProofs (disch := first | decide | exact of_eq_true (eq_true rfl) | omega | assumption) only [ ↓vcD, vcE, ↓vcG, vcF, evs, evP, evB, intsOf, fillC, Value.cells, pt, Value.oneCell', reduceIte, reduceCtorEq, Nat.reduceEqDiff, Nat.reduceAdd, Nat.reduceMul, Nat.reduceLT, Nat.reduceBEq, Nat.reduceLeDiff, Nat.reduceSub]
  refine ITri.ret ?_; exact EndR.plain (by simp) (by rfl) (by rfl) (by rfl)
set_option maxHeartbeats 4000000 in
theorem grinds_law (ps : List Int) (T : List St) (S : List Sm) (X : List (Int × Int)) (E : Int) (nT cT nS cS nX cX : Nat) (hl : ps.length = 117) (hT : T.length = nT) (hS : S.length = nS) (hX : X.length = nX) :
    Fc Try.prog 4 [.agg ⟨rows eI ps⟩, ruV (s1 nT cT) (s2 nS cS) (s3 nX cX) E] (Hp 4 (M4 T S X)) (.bool true) (Hp 4 (M4 T S X)) := by
  refine Fc.intro0 fn4 (by simp) rfl rfl ?_; simp only [argF]
  have hall1 : (rows eI ps).all Value.oneCell' = true := rows_one' (f := eI) ps
  have t117 := takeC_0 (rows eI ps) 117 (by rw [rows_len (f := eI), hl])
  refine ITri.seq ?_
  refine ITri.reg pok ?_; simp -implicitDefEqProofs (disch := first | decide | exact of_eq_true (eq_true rfl) | omega | assumption) only [hall1,  ↓vcD, vcE, ↓vcG, vcF, evs, evP, evB, intsOf, fillC, Value.cells, pt, Value.oneCell', reduceIte, reduceCtorEq, Nat.reduceEqDiff, Nat.reduceAdd, Nat.reduceMul, Nat.reduceLT, Nat.reduceBEq, Nat.reduceLeDiff, Nat.reduceSub] -- r0
  refine ITri.seq ?_
  refine ITri.seq ?_
  by_cases c1 : (nT : Int) > 60
  · refine ITri.reg pok ?_; simp -implicitDefEqProofs (disch := first | decide | exact of_eq_true (eq_true rfl) | omega | assumption) only [c1, decide_true,  ↓vcD, vcE, ↓vcG, vcF, evs, evP, evB, intsOf, fillC, Value.cells, pt, Value.oneCell', reduceIte, reduceCtorEq, Nat.reduceEqDiff, Nat.reduceAdd, Nat.reduceMul, Nat.reduceLT, Nat.reduceBEq, Nat.reduceLeDiff, Nat.reduceSub] -- r1
    refine ITri.cond (v := true) rfl (fun _ => ?_) (fun h => by cases h)
    refine ITri.seq ?_
    refine ITri.reg pok ?_; simp -implicitDefEqProofs (disch := first | decide | exact of_eq_true (eq_true rfl) | omega | assumption) only [ ↓vcD, vcE, ↓vcG, vcF, evs, evP, evB, intsOf, fillC, Value.cells, pt, Value.oneCell', reduceIte, reduceCtorEq, Nat.reduceEqDiff, Nat.reduceAdd, Nat.reduceMul, Nat.reduceLT, Nat.reduceBEq, Nat.reduceLeDiff, Nat.reduceSub] -- r2
    refine ⟨_, _, cropped_f, ?_⟩
    try simp -implicitDefEqProofs (disch := first | decide | exact of_eq_true (eq_true rfl) | omega | assumption) only [ ↓vcD, vcE, ↓vcG, vcF, evs, evP, evB, intsOf, fillC, Value.cells, pt, Value.oneCell', reduceIte, reduceCtorEq, Nat.reduceEqDiff, Nat.reduceAdd, Nat.reduceMul, Nat.reduceLT, Nat.reduceBEq, Nat.reduceLeDiff, Nat.reduceSub]
    refine ITri.ret ?_; exact EndR.plain (by simp) (by rfl) (by rfl) (by rfl)
  by_cases c2 : (nS : Int) > 100
  · refine ITri.reg pok ?_; simp -implicitDefEqProofs (disch := first | decide | exact of_eq_true (eq_true rfl) | omega | assumption) only [c1, c2, decide_true, decide_false,  ↓vcD, vcE, ↓vcG, vcF, evs, evP, evB, intsOf, fillC, Value.cells, pt, Value.oneCell', reduceIte, reduceCtorEq, Nat.reduceEqDiff, Nat.reduceAdd, Nat.reduceMul, Nat.reduceLT, Nat.reduceBEq, Nat.reduceLeDiff, Nat.reduceSub] -- r1
    refine ITri.cond (v := true) rfl (fun _ => ?_) (fun h => by cases h)
    refine ITri.seq ?_
    refine ITri.reg pok ?_; simp -implicitDefEqProofs (disch := first | decide | exact of_eq_true (eq_true rfl) | omega | assumption) only [ ↓vcD, vcE, ↓vcG, vcF, evs, evP, evB, intsOf, fillC, Value.cells, pt, Value.oneCell', reduceIte, reduceCtorEq, Nat.reduceEqDiff, Nat.reduceAdd, Nat.reduceMul, Nat.reduceLT, Nat.reduceBEq, Nat.reduceLeDiff, Nat.reduceSub] -- r2
    refine ⟨_, _, cropped_f, ?_⟩
    try simp -implicitDefEqProofs (disch := first | decide | exact of_eq_true (eq_true rfl) | omega | assumption) only [ ↓vcD, vcE, ↓vcG, vcF, evs, evP, evB, intsOf, fillC, Value.cells, pt, Value.oneCell', reduceIte, reduceCtorEq, Nat.reduceEqDiff, Nat.reduceAdd, Nat.reduceMul, Nat.reduceLT, Nat.reduceBEq, Nat.reduceLeDiff, Nat.reduceSub]
    refine ITri.ret ?_; exact EndR.plain (by simp) (by rfl) (by rfl) (by rfl)
  by_cases c3 : (nX : Int) > 20
  · refine ITri.reg pok ?_; simp -implicitDefEqProofs (disch := first | decide | exact of_eq_true (eq_true rfl) | omega | assumption) only [c1, c2, c3, decide_true, decide_false,  ↓vcD, vcE, ↓vcG, vcF, evs, evP, evB, intsOf, fillC, Value.cells, pt, Value.oneCell', reduceIte, reduceCtorEq, Nat.reduceEqDiff, Nat.reduceAdd, Nat.reduceMul, Nat.reduceLT, Nat.reduceBEq, Nat.reduceLeDiff, Nat.reduceSub] -- r1
    refine ITri.cond (v := true) rfl (fun _ => ?_) (fun h => by cases h)
    refine ITri.seq ?_
    refine ITri.reg pok ?_; simp -implicitDefEqProofs (disch := first | decide | exact of_eq_true (eq_true rfl) | omega | assumption) only [ ↓vcD, vcE, ↓vcG, vcF, evs, evP, evB, intsOf, fillC, Value.cells, pt, Value.oneCell', reduceIte, reduceCtorEq, Nat.reduceEqDiff, Nat.reduceAdd, Nat.reduceMul, Nat.reduceLT, Nat.reduceBEq, Nat.reduceLeDiff, Nat.reduceSub] -- r2
    refine ⟨_, _, cropped_f, ?_⟩
    try simp -implicitDefEqProofs (disch := first | decide | exact of_eq_true (eq_true rfl) | omega | assumption) only [ ↓vcD, vcE, ↓vcG, vcF, evs, evP, evB, intsOf, fillC, Value.cells, pt, Value.oneCell', reduceIte, reduceCtorEq, Nat.reduceEqDiff, Nat.reduceAdd, Nat.reduceMul, Nat.reduceLT, Nat.reduceBEq, Nat.reduceLeDiff, Nat.reduceSub]
    refine ITri.ret ?_; exact EndR.plain (by simp) (by rfl) (by rfl) (by rfl)
  by_cases c4 : E > 200
  · refine ITri.reg pok ?_; simp -implicitDefEqProofs (disch := first | decide | exact of_eq_true (eq_true rfl) | omega | assumption) only [c1, c2, c3, c4, decide_true, decide_false,  ↓vcD, vcE, ↓vcG, vcF, evs, evP, evB, intsOf, fillC, Value.cells, pt, Value.oneCell', reduceIte, reduceCtorEq, Nat.reduceEqDiff, Nat.reduceAdd, Nat.reduceMul, Nat.reduceLT, Nat.reduceBEq, Nat.reduceLeDiff, Nat.reduceSub] -- r1
    refine ITri.cond (v := true) rfl (fun _ => ?_) (fun h => by cases h)
    refine ITri.seq ?_
    refine ITri.reg pok ?_; simp -implicitDefEqProofs (disch := first | decide | exact of_eq_true (eq_true rfl) | omega | assumption) only [ ↓vcD, vcE, ↓vcG, vcF, evs, evP, evB, intsOf, fillC, Value.cells, pt, Value.oneCell', reduceIte, reduceCtorEq, Nat.reduceEqDiff, Nat.reduceAdd, Nat.reduceMul, Nat.reduceLT, Nat.reduceBEq, Nat.reduceLeDiff, Nat.reduceSub] -- r2
    refine ⟨_, _, cropped_f, ?_⟩
    try simp -implicitDefEqProofs (disch := first | decide | exact of_eq_true (eq_true rfl) | omega | assumption) only [ ↓vcD, vcE, ↓vcG, vcF, evs, evP, evB, intsOf, fillC, Value.cells, pt, Value.oneCell', reduceIte, reduceCtorEq, Nat.reduceEqDiff, Nat.reduceAdd, Nat.reduceMul, Nat.reduceLT, Nat.reduceBEq, Nat.reduceLeDiff, Nat.reduceSub]
    refine ITri.ret ?_; exact EndR.plain (by simp) (by rfl) (by rfl) (by rfl)
  refine ITri.reg pok ?_; simp -implicitDefEqProofs (disch := first | decide | exact of_eq_true (eq_true rfl) | omega | assumption) only [c1, c2, c3, c4, decide_false,  ↓vcD, vcE, ↓vcG, vcF, evs, evP, evB, intsOf, fillC, Value.cells, pt, Value.oneCell', reduceIte, reduceCtorEq, Nat.reduceEqDiff, Nat.reduceAdd, Nat.reduceMul, Nat.reduceLT, Nat.reduceBEq, Nat.reduceLeDiff, Nat.reduceSub] -- r1
  refine ITri.cond (v := false) rfl (fun h => by cases h) (fun _ => ?_); refine ITri.skip ?_; simp only [SeqQ_normal, BlkQ_normal]
  refine ITri.seq ?_
  have hbad : (∃ e, e ≠ 0 ∧ BadC ps T S X E e) ∨ ∃ N : Nat, E = N ∧ GoodC ps T S X N := by
    by_cases h : pulOK ps ∧ runOK T S X E
    · obtain ⟨a, b, hv⟩ := cfV_ex S (nth ps 110) (nth ps 111)
      by_cases ha : a = -1
      · right
        have h0 := h.2.t 0 (by have := h.2.n1; omega)
        have h1 : (0 : Int) ≤ (nth T 0).a := h0.2.1
        have h2 := h0.2.2.2
        obtain ⟨N, hN⟩ : ∃ N : Nat, E = N := ⟨E.toNat, by omega⟩
        subst hN
        have hb : b = -1 := by
          rcases hv with ⟨_, _, h⟩ | ⟨i0, _, h, _⟩
          · exact h
          · omega
        subst ha hb
        exact ⟨N, rfl, hl, h.1, h.2, by omega, hv⟩
      · exact .inl ⟨40, by decide, .inr ⟨h.1, h.2, rfl, a, b, cfV_nn hv ha, hv⟩⟩
    · exact .inl ⟨2, by decide, .inl ⟨h, rfl⟩⟩
  rcases hbad with ⟨e, he, hE⟩ | ⟨N, rfl, G⟩
  · refine ITri.draw pok ?_; simp -implicitDefEqProofs (disch := first | decide | exact of_eq_true (eq_true rfl) | omega | assumption) only [t117,  ↓vcD, vcE, ↓vcG, vcF, evs, evP, evB, intsOf, fillC, Value.cells, pt, Value.oneCell', reduceIte, reduceCtorEq, Nat.reduceEqDiff, Nat.reduceAdd, Nat.reduceMul, Nat.reduceLT, Nat.reduceBEq, Nat.reduceLeDiff, Nat.reduceSub] -- r3
    refine ⟨_, _, runOf_f hT hS hX (by omega) (by omega) (by omega) (sees0 rfl (of_decide_eq_true rfl)) (Rd.hq rfl rfl) (Rd.hq rfl rfl) (Rd.hq rfl rfl), ?_⟩
    simp -implicitDefEqProofs (disch := first | decide | exact of_eq_true (eq_true rfl) | omega | assumption) only [news_c, news_n,  ↓vcD, vcE, ↓vcG, vcF, evs, evP, evB, intsOf, fillC, Value.cells, pt, Value.oneCell', reduceIte, reduceCtorEq, Nat.reduceEqDiff, Nat.reduceAdd, Nat.reduceMul, Nat.reduceLT, Nat.reduceBEq, Nat.reduceLeDiff, Nat.reduceSub]
    refine ⟨_, _, acceptE_f hl hT hS hX (by omega) hE (sees0 rfl (of_decide_eq_true rfl)) (get_hq rfl rfl) (get_hq rfl rfl) (get_hq rfl rfl), ?_⟩
    try simp -implicitDefEqProofs (disch := first | decide | exact of_eq_true (eq_true rfl) | omega | assumption) only [ ↓vcD, vcE, ↓vcG, vcF, evs, evP, evB, intsOf, fillC, Value.cells, pt, Value.oneCell', reduceIte, reduceCtorEq, Nat.reduceEqDiff, Nat.reduceAdd, Nat.reduceMul, Nat.reduceLT, Nat.reduceBEq, Nat.reduceLeDiff, Nat.reduceSub]
    refine ITri.seq ?_
    refine ITri.seq ?_
    refine ITri.reg pok ?_; simp -implicitDefEqProofs (disch := first | decide | exact of_eq_true (eq_true rfl) | omega | assumption) only [he, decide_false, Bool.not_false,  ↓vcD, vcE, ↓vcG, vcF, evs, evP, evB, intsOf, fillC, Value.cells, pt, Value.oneCell', reduceIte, reduceCtorEq, Nat.reduceEqDiff, Nat.reduceAdd, Nat.reduceMul, Nat.reduceLT, Nat.reduceBEq, Nat.reduceLeDiff, Nat.reduceSub] -- r4
    refine ITri.cond (v := true) rfl (fun _ => ?_) (fun h => by cases h)
    refine ITri.seq ?_
    have z0 : (((0 : Nat) : Int) = 0) = True := eq_true rfl
    refine ITri.reg pok ?_; simp -implicitDefEqProofs (disch := first | decide | exact of_eq_true (eq_true rfl) | omega | assumption) only [z0, decide_true,  ↓vcD, vcE, ↓vcG, vcF, evs, evP, evB, intsOf, fillC, Value.cells, pt, Value.oneCell', reduceIte, reduceCtorEq, Nat.reduceEqDiff, Nat.reduceAdd, Nat.reduceMul, Nat.reduceLT, Nat.reduceBEq, Nat.reduceLeDiff, Nat.reduceSub] -- r5
    refine ⟨_, _, cropped_f, ?_⟩
    try simp -implicitDefEqProofs (disch := first | decide | exact of_eq_true (eq_true rfl) | omega | assumption) only [ ↓vcD, vcE, ↓vcG, vcF, evs, evP, evB, intsOf, fillC, Value.cells, pt, Value.oneCell', reduceIte, reduceCtorEq, Nat.reduceEqDiff, Nat.reduceAdd, Nat.reduceMul, Nat.reduceLT, Nat.reduceBEq, Nat.reduceLeDiff, Nat.reduceSub]
    refine ITri.ret ?_; exact EndR.plain (by simp) (by rfl) (by rfl) (by rfl)
  · have FA := fun {h : AH} {k1 k2 k3 z1 z2 z3 : Nat} {o1 o2 o3 : Bool} h0 g1 g2 g3 => accept_f (h := h) (k1 := k1) (k2 := k2) (k3 := k3) (z1 := z1) (z2 := z2) (z3 := z3) (o1 := o1) (o2 := o2) (o3 := o3) hT hS hX G h0 g1 g2 g3
    obtain ⟨L, hL⟩ : ∃ L, rnL ps (BLs ps S N) (FLs ps S N) N = L := ⟨_, rfl⟩
    rw [hL] at FA
    have g112 := getI (xs := ps) (i := 112) (by omega)
    refine ITri.draw pok ?_; simp -implicitDefEqProofs (disch := first | decide | exact of_eq_true (eq_true rfl) | omega | assumption) only [t117,  ↓vcD, vcE, ↓vcG, vcF, evs, evP, evB, intsOf, fillC, Value.cells, pt, Value.oneCell', reduceIte, reduceCtorEq, Nat.reduceEqDiff, Nat.reduceAdd, Nat.reduceMul, Nat.reduceLT, Nat.reduceBEq, Nat.reduceLeDiff, Nat.reduceSub] -- r3
    refine ⟨_, _, runOf_f hT hS hX (by omega) (by omega) (by omega) (sees0 rfl (of_decide_eq_true rfl)) (Rd.hq rfl rfl) (Rd.hq rfl rfl) (Rd.hq rfl rfl), ?_⟩
    simp -implicitDefEqProofs (disch := first | decide | exact of_eq_true (eq_true rfl) | omega | assumption) only [news_c, news_n,  ↓vcD, vcE, ↓vcG, vcF, evs, evP, evB, intsOf, fillC, Value.cells, pt, Value.oneCell', reduceIte, reduceCtorEq, Nat.reduceEqDiff, Nat.reduceAdd, Nat.reduceMul, Nat.reduceLT, Nat.reduceBEq, Nat.reduceLeDiff, Nat.reduceSub]
    refine ⟨_, _, FA (sees0 rfl (of_decide_eq_true rfl)) (get_hq rfl rfl) (get_hq rfl rfl) (get_hq rfl rfl), ?_⟩
    simp -implicitDefEqProofs (disch := first | decide | exact of_eq_true (eq_true rfl) | omega | assumption) only [news_c, news_n,  ↓vcD, vcE, ↓vcG, vcF, evs, evP, evB, intsOf, fillC, Value.cells, pt, Value.oneCell', reduceIte, reduceCtorEq, Nat.reduceEqDiff, Nat.reduceAdd, Nat.reduceMul, Nat.reduceLT, Nat.reduceBEq, Nat.reduceLeDiff, Nat.reduceSub]
    refine ITri.seq ?_
    refine ITri.seq ?_
    refine ITri.reg pok ?_; simp -implicitDefEqProofs (disch := first | decide | exact of_eq_true (eq_true rfl) | omega | assumption) only [decide_true, Bool.not_true,  ↓vcD, vcE, ↓vcG, vcF, evs, evP, evB, intsOf, fillC, Value.cells, pt, Value.oneCell', reduceIte, reduceCtorEq, Nat.reduceEqDiff, Nat.reduceAdd, Nat.reduceMul, Nat.reduceLT, Nat.reduceBEq, Nat.reduceLeDiff, Nat.reduceSub] -- r4
    refine ITri.cond (v := false) rfl (fun h => by cases h) (fun _ => ?_); refine ITri.skip ?_; simp only [SeqQ_normal, BlkQ_normal]
    refine ITri.seq ?_
    refine ITri.reg pok ?_; simp -implicitDefEqProofs (disch := first | decide | exact of_eq_true (eq_true rfl) | omega | assumption) only [g112,  ↓vcD, vcE, ↓vcG, vcF, evs, evP, evB, intsOf, fillC, Value.cells, pt, Value.oneCell', reduceIte, reduceCtorEq, Nat.reduceEqDiff, Nat.reduceAdd, Nat.reduceMul, Nat.reduceLT, Nat.reduceBEq, Nat.reduceLeDiff, Nat.reduceSub] -- r6
    have hend := grinds_loop (cT := cT) (cS := cS) (cX := cX) hT hS hX G (by omega) (by omega) (by omega) hL.symm
    exact (fun W => ITri.weak W hend) (Wk.gc [0, 1, 2, 3, 4, 5, 9] [] (of_decide_eq_true rfl) (of_decide_eq_true rfl) rfl rfl (of_decide_eq_true rfl) rfl rfl (by repeat (first | exact xiOK_nil | refine xiOK_cons (by first | trivial | exact roomOK _ (by decide)) ?_)) rfl (by simp -implicitDefEqProofs (disch := first | decide | exact of_eq_true (eq_true rfl) | omega | assumption) only [ objOK, sgL, xiL, objAt, nilO, OM, mvL, mv, mvS, okS, okP, mvL_rows, okML, okM, okML_rows, List.getElem?_cons_zero, Option.getD_some, implies_true, imp_self, ne_eq, and_self, true_or, or_true, Nat.zero_mul, Nat.sub_self, openB_self, ↓vcD, vcE, ↓vcG, vcF, evs, evP, evB, intsOf, fillC, Value.cells, pt, Value.oneCell', reduceIte, reduceCtorEq, Nat.reduceEqDiff, Nat.reduceAdd, Nat.reduceMul, Nat.reduceLT, Nat.reduceBEq, Nat.reduceLeDiff, Nat.reduceSub]) (by simp -implicitDefEqProofs (disch := first | decide | exact of_eq_true (eq_true rfl) | omega | assumption) only [ valOK, sgL, xiL, mv, mvA, mvL, mvS, okS, okP, okM, okMA, okML, Option.getD_some, implies_true, and_self, true_or, or_true, Int.natCast_add, Int.cast_ofNat_Int, Nat.zero_mul, Nat.sub_self, openB_self, ↓vcD, vcE, ↓vcG, vcF, evs, evP, evB, intsOf, fillC, Value.cells, pt, Value.oneCell', reduceIte, reduceCtorEq, Nat.reduceEqDiff, Nat.reduceAdd, Nat.reduceMul, Nat.reduceLT, Nat.reduceBEq, Nat.reduceLeDiff, Nat.reduceSub]) (fun _ h => by cases h) ⟨rfl, fun _ h => by cases h⟩)
end
end Go.Proofs.Yteddklolpcpjaaa
