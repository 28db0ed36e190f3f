/-
  Chapter 11, by names: the law ShopNothing: a nil shop refuses every call.
-/
import Derived.Test.YtfmcdbcoljpomaaShopN1
set_option linter.unusedSimpArgs false
set_option linter.unusedVariables false
namespace Go.Proofs.Ytfmcdbcoljpomaa
open Go.RowKit Go.Vm
set_option maxRecDepth 100000
theorem MkL.pre {mk : List Value → List Value} (h : MkL mk) {pre : List Value} (hp : noAddrL pre = true) : MkL (fun ss => pre ++ mk ss) :=
  ⟨fun ψ ss => by rw [mwL_app, mwL_noAddr _ _ hp, h.mw], fun ξ B ss hs => okML_app.2 ⟨okML_noAddr _ _ _ hp, h.ok ξ B ss hs⟩⟩
/- boule/boulelaw11.ShopNothing · slots 77 · names 0:c 1:c 3:s 4:x 5:ok 6:a 7:e 8:b 9:f · results [2] -/
def ir9_r0 : IC := .reg [⟨some 1, none, false, .box (.t 0)⟩,
  ⟨some 2, none, false, .mv (.k (.bool false))⟩] (some [1])
def ir9_r1 : IC := .reg [⟨some 10, none, false, .fad 3 (.t 1)⟩,
  ⟨some 11, none, false, .ldc (.t 10)⟩,
  ⟨some 12, none, false, .len (.t 11)⟩,
  ⟨some 13, none, false, .cmp .gtr (.t 12) (.k (.int .i64 20))⟩] (some [1, 13])
def ir9_r2 : IC := .reg [⟨some 14, none, false, .call (.f 12) []⟩,
  ⟨some 2, none, false, .mv (.t 14)⟩] (some [2])
def ir9_1 : IC := .seq ir9_r2 .ret
def ir9_2 : IC := .cond (.t 13) ir9_1 .skip
def ir9_3 : IC := .seq ir9_r1 ir9_2
def ir9_r3 : IC := .reg [⟨some 3, none, false, .mv (.k (.pointer none))⟩] (some [1, 3])
def ir9_r4 : IC := .reg [⟨some 16, none, false, .mv (.t 3)⟩,
  ⟨some 17, none, false, .bld [(.bool false), (.slice none 0 0), (.slice none 0 0), (.slice none 0 0), (.int .i64 0), (.slice none 0 0), (.slice none 0 0), (.slice none 0 0)] [(0, 1, (.k (.bool true)))]⟩,
  ⟨some 18, none, false, .lda 4 (.t 1)⟩,
  ⟨some 19, none, false, .call (.f 26) [(.t 16), (.t 17), (.t 18)]⟩,
  ⟨some 15, none, false, .mv (.t 19)⟩,
  ⟨some 20, none, false, .ext (.t 15) 0⟩,
  ⟨some 21, none, false, .ext (.t 15) 1⟩,
  ⟨some 4, none, false, .alloc [(.bool false), (.slice none 0 0), (.slice none 0 0), (.slice none 0 0), (.int .i64 0), (.slice none 0 0), (.slice none 0 0), (.slice none 0 0)]⟩,
  ⟨none, none, false, .st 8 (.t 4) (.t 20)⟩,
  ⟨some 5, none, false, .mv (.t 21)⟩] (some [1, 3, 4, 5])
def ir9_r5 : IC := .reg [⟨some 23, none, false, .mv (.t 3)⟩,
  ⟨some 24, none, false, .fad 1 (.t 1)⟩,
  ⟨some 25, none, false, .ldc (.t 24)⟩,
  ⟨some 26, none, false, .call (.f 27) [(.t 23), (.t 25)]⟩,
  ⟨some 22, none, false, .mv (.t 26)⟩,
  ⟨some 27, none, false, .ext (.t 22) 0⟩,
  ⟨some 28, none, false, .ext (.t 22) 1⟩,
  ⟨some 6, none, false, .alloc [(.int .i64 0), (.int .i64 0), (.int .i64 0), (.int .u8 0), (.int .i64 0)]⟩,
  ⟨none, none, false, .st 5 (.t 6) (.t 27)⟩,
  ⟨some 7, none, false, .mv (.t 28)⟩] (some [1, 3, 4, 5, 6, 7])
def ir9_r6 : IC := .reg [⟨some 30, none, false, .mv (.t 3)⟩,
  ⟨some 31, none, false, .fad 1 (.t 1)⟩,
  ⟨some 32, none, false, .ldc (.t 31)⟩,
  ⟨some 33, none, false, .call (.f 28) [(.t 30), (.t 32)]⟩,
  ⟨some 29, none, false, .mv (.t 33)⟩,
  ⟨some 34, none, false, .ext (.t 29) 0⟩,
  ⟨some 35, none, false, .ext (.t 29) 1⟩,
  ⟨some 8, none, false, .alloc [(.int .i64 0), (.int .i64 0), (.slice none 0 0), (.int .i64 0), (.bool false), (.int .i64 0), (.slice none 0 0)]⟩,
  ⟨none, none, false, .st 7 (.t 8) (.t 34)⟩,
  ⟨some 9, none, false, .mv (.t 35)⟩] (some [3, 4, 5, 6, 7, 8, 9])
def ir9_r7 : IC := .reg [⟨some 36, none, false, .mv (.t 5)⟩,
  ⟨some 37, none, false, .mv (.t 36)⟩,
  ⟨some 38, some (37, true), false, .fad 0 (.t 4)⟩,
  ⟨some 39, some (37, true), false, .ldc (.t 38)⟩,
  ⟨some 40, none, false, .pick (.t 37) (.t 39) (.k (.bool false))⟩,
  ⟨some 41, none, false, .mv (.t 40)⟩,
  ⟨some 42, some (41, true), false, .mv (.t 7)⟩,
  ⟨some 43, some (41, true), false, .cmp .eql (.t 42) (.k (.int .i64 1))⟩,
  ⟨some 44, none, false, .pick (.t 41) (.t 43) (.k (.bool false))⟩,
  ⟨some 45, none, false, .mv (.t 44)⟩,
  ⟨some 46, some (45, true), false, .mv (.t 9)⟩,
  ⟨some 47, some (45, true), false, .cmp .eql (.t 46) (.k (.int .i64 1))⟩,
  ⟨some 48, none, false, .pick (.t 45) (.t 47) (.k (.bool false))⟩,
  ⟨some 49, none, false, .mv (.t 48)⟩,
  ⟨some 50, some (49, true), false, .lda 5 (.t 6)⟩,
  ⟨some 51, some (49, true), false, .bld [(.int .i64 0), (.int .i64 0), (.int .i64 0), (.int .u8 0), (.int .i64 0)] []⟩,
  ⟨some 52, some (49, true), false, .eqs false [false, false, false, false, false] (.t 50) (.t 51)⟩,
  ⟨some 53, none, false, .pick (.t 49) (.t 52) (.k (.bool false))⟩,
  ⟨some 54, none, false, .mv (.t 53)⟩,
  ⟨some 55, some (54, true), false, .fad 0 (.t 8)⟩,
  ⟨some 56, some (54, true), false, .ldc (.t 55)⟩,
  ⟨some 57, some (54, true), false, .cmp .eql (.t 56) (.k (.int .i64 0))⟩,
  ⟨some 58, none, false, .pick (.t 54) (.t 57) (.k (.bool false))⟩,
  ⟨some 59, none, false, .mv (.t 58)⟩,
  ⟨some 60, some (59, true), false, .fad 2 (.t 8)⟩,
  ⟨some 61, some (59, true), false, .ldc (.t 60)⟩,
  ⟨some 62, some (59, true), false, .len (.t 61)⟩,
  ⟨some 63, some (59, true), false, .fad 6 (.t 8)⟩,
  ⟨some 64, some (59, true), false, .ldc (.t 63)⟩,
  ⟨some 65, some (59, true), false, .len (.t 64)⟩,
  ⟨some 66, some (59, true), false, .ar .add (.t 62) (.t 65)⟩,
  ⟨some 67, some (59, true), false, .cmp .eql (.t 66) (.k (.int .i64 0))⟩,
  ⟨some 68, none, false, .pick (.t 59) (.t 67) (.k (.bool false))⟩,
  ⟨some 69, none, false, .mv (.t 68)⟩,
  ⟨some 70, some (69, true), false, .mv (.t 3)⟩,
  ⟨some 71, some (69, true), false, .call (.f 29) [(.t 70)]⟩,
  ⟨some 72, some (69, true), false, .cmp .eql (.t 71) (.k (.int .i64 0))⟩,
  ⟨some 73, none, false, .pick (.t 69) (.t 72) (.k (.bool false))⟩,
  ⟨some 74, none, false, .mv (.t 73)⟩,
  ⟨some 75, some (74, true), false, .call (.f 12) []⟩,
  ⟨some 76, none, false, .pick (.t 74) (.t 75) (.k (.bool false))⟩,
  ⟨some 2, none, false, .mv (.t 76)⟩] (some [2])
def ir9_4 : IC := .seq ir9_r7 .ret
def ir9_5 : IC := .seq ir9_r6 ir9_4
def ir9_6 : IC := .seq ir9_r5 ir9_5
def ir9_7 : IC := .seq ir9_r4 ir9_6
def ir9_8 : IC := .seq ir9_r3 ir9_7
def ir9_9 : IC := .seq ir9_3 ir9_8
def ir9_10 : IC := .seq ir9_r0 ir9_9
def ir9 : IC := ir9_10
theorem fn9 : FnIs Try.prog 9 ir9 77 [.tmp 2] := ⟨Try.f9, Try.f9.body.getD .skip, Try.func9, by kernel_rfl, by kernel_rfl, by kernel_rfl, by kernel_rfl⟩
/- boule/boulelaw11.done · slots 267 · names 0:s 1:x 2:c 3:s 4:x 5:c 8:n 9:e 10:y 11:m 12:f 13:in 14:e 15:y 16:f 17:i 18:e 19:y 20:f 21:e 22:y 23:f 24:b 25:e 26:y 27:d 28:f 29:e 30:y 31:f 32:b 33:e 34:y 35:d 36:f 37:b 38:e 39:y 40:d 41:f 42:e 43:y 44:f · results [6, 7] -/
def ir26_r0 : IC := .reg [⟨some 4, none, false, .box (.t 1)⟩,
  ⟨some 5, none, false, .box (.t 2)⟩,
  ⟨some 6, none, false, .alloc [(.bool false), (.slice none 0 0), (.slice none 0 0), (.slice none 0 0), (.int .i64 0), (.slice none 0 0), (.slice none 0 0), (.slice none 0 0)]⟩,
  ⟨some 7, none, false, .mv (.k (.bool false))⟩] (some [0, 4, 5, 6])
def ir26_r1 : IC := .reg [⟨some 45, none, false, .fad 0 (.t 5)⟩,
  ⟨some 46, none, false, .ldc (.t 45)⟩,
  ⟨some 47, none, false, .div .rem (.t 46) (.k (.int .u8 9))⟩] (some [0, 4, 5, 6, 47])
def ir26_r2 : IC := .reg [⟨some 49, none, false, .cmp .eql (.t 47) (.k (.int .u8 0))⟩,
  ⟨some 48, none, false, .mv (.t 49)⟩] (some [0, 4, 5, 6, 47, 48])
def ir26_r3 : IC := .reg [⟨some 51, none, false, .mv (.t 0)⟩,
  ⟨some 52, none, false, .call (.f 37) [(.t 51)]⟩,
  ⟨some 50, none, false, .mv (.t 52)⟩,
  ⟨some 53, none, false, .ext (.t 50) 0⟩,
  ⟨some 54, none, false, .ext (.t 50) 1⟩,
  ⟨some 8, none, false, .mv (.t 53)⟩,
  ⟨some 9, none, false, .mv (.t 54)⟩] (some [4, 6, 8, 9])
def ir26_r4 : IC := .reg [⟨some 56, none, false, .lda 8 (.t 4)⟩,
  ⟨some 57, none, false, .call (.f 62) [(.t 56)]⟩,
  ⟨some 55, none, false, .mv (.t 57)⟩,
  ⟨some 58, none, false, .ext (.t 55) 0⟩,
  ⟨some 59, none, false, .ext (.t 55) 1⟩,
  ⟨some 60, none, false, .ext (.t 55) 2⟩,
  ⟨some 10, none, false, .alloc [(.bool false), (.slice none 0 0), (.slice none 0 0), (.slice none 0 0), (.int .i64 0), (.slice none 0 0), (.slice none 0 0), (.slice none 0 0)]⟩,
  ⟨none, none, false, .st 8 (.t 10) (.t 58)⟩,
  ⟨some 11, none, false, .mv (.t 59)⟩,
  ⟨some 12, none, false, .mv (.t 60)⟩] (some [6, 8, 9, 10, 11, 12])
def ir26_r5 : IC := .reg [⟨some 61, none, false, .lda 8 (.t 10)⟩,
  ⟨some 62, none, false, .mv (.t 8)⟩,
  ⟨some 63, none, false, .mv (.t 11)⟩,
  ⟨some 64, none, false, .cmp .eql (.t 62) (.t 63)⟩,
  ⟨some 65, none, false, .mv (.t 64)⟩,
  ⟨some 66, some (65, true), false, .mv (.t 9)⟩,
  ⟨some 67, some (65, true), false, .mv (.t 12)⟩,
  ⟨some 68, some (65, true), false, .cmp .eql (.t 66) (.t 67)⟩,
  ⟨some 69, none, false, .pick (.t 65) (.t 68) (.k (.bool false))⟩,
  ⟨none, none, false, .st 8 (.t 6) (.t 61)⟩,
  ⟨some 7, none, false, .mv (.t 69)⟩] (some [6, 7])
def ir26_1 : IC := .seq ir26_r5 .ret
def ir26_2 : IC := .seq ir26_r4 ir26_1
def ir26_3 : IC := .seq ir26_r3 ir26_2
def ir26_r6 : IC := .reg [⟨some 71, none, false, .cmp .eql (.t 47) (.k (.int .u8 1))⟩,
  ⟨some 70, none, false, .mv (.t 71)⟩] (some [0, 4, 5, 6, 47, 70])
def ir26_r7 : IC := .reg [⟨some 72, none, false, .bsl 1 0 [] []⟩,
  ⟨some 73, none, false, .fad 3 (.t 5)⟩,
  ⟨some 74, none, false, .ldc (.t 73)⟩,
  ⟨some 75, none, false, .app 1 8 (.t 72) (.t 74)⟩,
  ⟨some 13, none, false, .mv (.t 75)⟩] (some [0, 4, 5, 6, 13])
def ir26_r8 : IC := .reg [⟨some 76, none, false, .mv (.t 0)⟩,
  ⟨some 77, none, false, .fad 1 (.t 5)⟩,
  ⟨some 78, none, false, .ldc (.t 77)⟩,
  ⟨some 79, none, false, .fad 2 (.t 5)⟩,
  ⟨some 80, none, false, .ldc (.t 79)⟩,
  ⟨some 81, none, false, .mv (.t 13)⟩,
  ⟨some 82, none, false, .call (.f 38) [(.t 76), (.t 78), (.t 80), (.t 81)]⟩,
  ⟨some 14, none, false, .mv (.t 82)⟩] (some [4, 5, 6, 13, 14])
def ir26_r9 : IC := .reg [⟨some 84, none, false, .lda 8 (.t 4)⟩,
  ⟨some 85, none, false, .fad 1 (.t 5)⟩,
  ⟨some 86, none, false, .ldc (.t 85)⟩,
  ⟨some 87, none, false, .fad 2 (.t 5)⟩,
  ⟨some 88, none, false, .ldc (.t 87)⟩,
  ⟨some 89, none, false, .fad 3 (.t 5)⟩,
  ⟨some 90, none, false, .ldc (.t 89)⟩,
  ⟨some 91, none, false, .call (.f 63) [(.t 84), (.t 86), (.t 88), (.t 90)]⟩,
  ⟨some 83, none, false, .mv (.t 91)⟩,
  ⟨some 92, none, false, .ext (.t 83) 0⟩,
  ⟨some 93, none, false, .ext (.t 83) 1⟩,
  ⟨some 15, none, false, .alloc [(.bool false), (.slice none 0 0), (.slice none 0 0), (.slice none 0 0), (.int .i64 0), (.slice none 0 0), (.slice none 0 0), (.slice none 0 0)]⟩,
  ⟨none, none, false, .st 8 (.t 15) (.t 92)⟩,
  ⟨some 16, none, false, .mv (.t 93)⟩] (some [6, 13, 14, 15, 16])
def ir26_r10 : IC := .reg [⟨some 17, none, false, .mv (.k (.int .i64 0))⟩] (some [6, 13, 14, 15, 16, 17])
def ir26_r11 : IC := .reg [⟨some 94, none, false, .mv (.t 17)⟩,
  ⟨some 95, none, false, .mv (.t 13)⟩,
  ⟨some 96, none, false, .len (.t 95)⟩,
  ⟨some 97, none, false, .cmp .lss (.t 94) (.t 96)⟩] (some [6, 13, 14, 15, 16, 17, 97])
def ir26_4 : IC := .cond (.t 97) .skip (.exit 1)
def ir26_5 : IC := .seq ir26_r11 ir26_4
def ir26_r13 : IC := .reg [⟨some 100, none, false, .mv (.t 13)⟩,
  ⟨some 101, none, false, .mv (.t 17)⟩,
  ⟨some 102, none, false, .iad 1 (.t 100) (.t 101)⟩,
  ⟨none, none, false, .st 1 (.t 102) (.k (.int .i64 0))⟩] (some [6, 13, 14, 15, 16, 17])
def ir26_6 : IC := .block 2 ir26_r13
def ir26_r12 : IC := .reg [⟨some 98, none, false, .mv (.t 17)⟩,
  ⟨some 99, none, false, .ar .add (.t 98) (.k (.int .i64 1))⟩,
  ⟨some 17, none, false, .mv (.t 99)⟩] (some [6, 13, 14, 15, 16, 17])
def ir26_7 : IC := .seq ir26_6 ir26_r12
def ir26_8 : IC := .seq ir26_5 ir26_7
def ir26_9 : IC := .loop ir26_8
def ir26_10 : IC := .block 1 ir26_9
def ir26_11 : IC := .seq ir26_r10 ir26_10
def ir26_r14 : IC := .reg [⟨some 103, none, false, .lda 8 (.t 15)⟩,
  ⟨some 104, none, false, .mv (.t 14)⟩,
  ⟨some 105, none, false, .mv (.t 16)⟩,
  ⟨some 106, none, false, .cmp .eql (.t 104) (.t 105)⟩,
  ⟨none, none, false, .st 8 (.t 6) (.t 103)⟩,
  ⟨some 7, none, false, .mv (.t 106)⟩] (some [6, 7])
def ir26_12 : IC := .seq ir26_r14 .ret
def ir26_13 : IC := .seq ir26_11 ir26_12
def ir26_14 : IC := .seq ir26_r9 ir26_13
def ir26_15 : IC := .seq ir26_r8 ir26_14
def ir26_16 : IC := .seq ir26_r7 ir26_15
def ir26_r15 : IC := .reg [⟨some 108, none, false, .cmp .eql (.t 47) (.k (.int .u8 2))⟩,
  ⟨some 107, none, false, .mv (.t 108)⟩] (some [0, 4, 5, 6, 47, 107])
def ir26_r16 : IC := .reg [⟨some 109, none, false, .mv (.t 0)⟩,
  ⟨some 110, none, false, .fad 1 (.t 5)⟩,
  ⟨some 111, none, false, .ldc (.t 110)⟩,
  ⟨some 112, none, false, .call (.f 39) [(.t 109), (.t 111)]⟩,
  ⟨some 18, none, false, .mv (.t 112)⟩] (some [4, 5, 6, 18])
def ir26_r17 : IC := .reg [⟨some 114, none, false, .lda 8 (.t 4)⟩,
  ⟨some 115, none, false, .fad 1 (.t 5)⟩,
  ⟨some 116, none, false, .ldc (.t 115)⟩,
  ⟨some 117, none, false, .call (.f 64) [(.t 114), (.t 116)]⟩,
  ⟨some 113, none, false, .mv (.t 117)⟩,
  ⟨some 118, none, false, .ext (.t 113) 0⟩,
  ⟨some 119, none, false, .ext (.t 113) 1⟩,
  ⟨some 19, none, false, .alloc [(.bool false), (.slice none 0 0), (.slice none 0 0), (.slice none 0 0), (.int .i64 0), (.slice none 0 0), (.slice none 0 0), (.slice none 0 0)]⟩,
  ⟨none, none, false, .st 8 (.t 19) (.t 118)⟩,
  ⟨some 20, none, false, .mv (.t 119)⟩] (some [6, 18, 19, 20])
def ir26_r18 : IC := .reg [⟨some 120, none, false, .lda 8 (.t 19)⟩,
  ⟨some 121, none, false, .mv (.t 18)⟩,
  ⟨some 122, none, false, .mv (.t 20)⟩,
  ⟨some 123, none, false, .cmp .eql (.t 121) (.t 122)⟩,
  ⟨none, none, false, .st 8 (.t 6) (.t 120)⟩,
  ⟨some 7, none, false, .mv (.t 123)⟩] (some [6, 7])
def ir26_17 : IC := .seq ir26_r18 .ret
def ir26_18 : IC := .seq ir26_r17 ir26_17
def ir26_19 : IC := .seq ir26_r16 ir26_18
def ir26_r19 : IC := .reg [⟨some 125, none, false, .cmp .eql (.t 47) (.k (.int .u8 3))⟩,
  ⟨some 124, none, false, .mv (.t 125)⟩] (some [0, 4, 5, 6, 47, 124])
def ir26_r20 : IC := .reg [⟨some 126, none, false, .mv (.t 0)⟩,
  ⟨some 127, none, false, .fad 1 (.t 5)⟩,
  ⟨some 128, none, false, .ldc (.t 127)⟩,
  ⟨some 129, none, false, .call (.f 65) [(.t 126), (.t 128)]⟩,
  ⟨some 21, none, false, .mv (.t 129)⟩] (some [4, 5, 6, 21])
def ir26_r21 : IC := .reg [⟨some 131, none, false, .lda 8 (.t 4)⟩,
  ⟨some 132, none, false, .fad 1 (.t 5)⟩,
  ⟨some 133, none, false, .ldc (.t 132)⟩,
  ⟨some 134, none, false, .call (.f 66) [(.t 131), (.t 133)]⟩,
  ⟨some 130, none, false, .mv (.t 134)⟩,
  ⟨some 135, none, false, .ext (.t 130) 0⟩,
  ⟨some 136, none, false, .ext (.t 130) 1⟩,
  ⟨some 22, none, false, .alloc [(.bool false), (.slice none 0 0), (.slice none 0 0), (.slice none 0 0), (.int .i64 0), (.slice none 0 0), (.slice none 0 0), (.slice none 0 0)]⟩,
  ⟨none, none, false, .st 8 (.t 22) (.t 135)⟩,
  ⟨some 23, none, false, .mv (.t 136)⟩] (some [6, 21, 22, 23])
def ir26_r22 : IC := .reg [⟨some 137, none, false, .lda 8 (.t 22)⟩,
  ⟨some 138, none, false, .mv (.t 21)⟩,
  ⟨some 139, none, false, .mv (.t 23)⟩,
  ⟨some 140, none, false, .cmp .eql (.t 138) (.t 139)⟩,
  ⟨none, none, false, .st 8 (.t 6) (.t 137)⟩,
  ⟨some 7, none, false, .mv (.t 140)⟩] (some [6, 7])
def ir26_20 : IC := .seq ir26_r22 .ret
def ir26_21 : IC := .seq ir26_r21 ir26_20
def ir26_22 : IC := .seq ir26_r20 ir26_21
def ir26_r23 : IC := .reg [⟨some 142, none, false, .cmp .eql (.t 47) (.k (.int .u8 4))⟩,
  ⟨some 141, none, false, .mv (.t 142)⟩] (some [0, 4, 5, 6, 47, 141])
def ir26_r24 : IC := .reg [⟨some 144, none, false, .mv (.t 0)⟩,
  ⟨some 145, none, false, .fad 1 (.t 5)⟩,
  ⟨some 146, none, false, .ldc (.t 145)⟩,
  ⟨some 147, none, false, .fad 2 (.t 5)⟩,
  ⟨some 148, none, false, .ldc (.t 147)⟩,
  ⟨some 149, none, false, .call (.f 40) [(.t 144), (.t 146), (.t 148)]⟩,
  ⟨some 143, none, false, .mv (.t 149)⟩,
  ⟨some 150, none, false, .ext (.t 143) 0⟩,
  ⟨some 151, none, false, .ext (.t 143) 1⟩,
  ⟨some 24, none, false, .mv (.t 150)⟩,
  ⟨some 25, none, false, .mv (.t 151)⟩] (some [4, 5, 6, 24, 25])
def ir26_r25 : IC := .reg [⟨some 153, none, false, .lda 8 (.t 4)⟩,
  ⟨some 154, none, false, .fad 1 (.t 5)⟩,
  ⟨some 155, none, false, .ldc (.t 154)⟩,
  ⟨some 156, none, false, .fad 2 (.t 5)⟩,
  ⟨some 157, none, false, .ldc (.t 156)⟩,
  ⟨some 158, none, false, .call (.f 67) [(.t 153), (.t 155), (.t 157)]⟩,
  ⟨some 152, none, false, .mv (.t 158)⟩,
  ⟨some 159, none, false, .ext (.t 152) 0⟩,
  ⟨some 160, none, false, .ext (.t 152) 1⟩,
  ⟨some 161, none, false, .ext (.t 152) 2⟩,
  ⟨some 26, none, false, .alloc [(.bool false), (.slice none 0 0), (.slice none 0 0), (.slice none 0 0), (.int .i64 0), (.slice none 0 0), (.slice none 0 0), (.slice none 0 0)]⟩,
  ⟨none, none, false, .st 8 (.t 26) (.t 159)⟩,
  ⟨some 27, none, false, .mv (.t 160)⟩,
  ⟨some 28, none, false, .mv (.t 161)⟩] (some [6, 24, 25, 26, 27, 28])
def ir26_r26 : IC := .reg [⟨some 162, none, false, .lda 8 (.t 26)⟩,
  ⟨some 163, none, false, .mv (.t 24)⟩,
  ⟨some 164, none, false, .mv (.t 27)⟩,
  ⟨some 165, none, false, .cmpb false (.t 163) (.t 164)⟩,
  ⟨some 166, none, false, .mv (.t 165)⟩,
  ⟨some 167, some (166, true), false, .mv (.t 25)⟩,
  ⟨some 168, some (166, true), false, .mv (.t 28)⟩,
  ⟨some 169, some (166, true), false, .cmp .eql (.t 167) (.t 168)⟩,
  ⟨some 170, none, false, .pick (.t 166) (.t 169) (.k (.bool false))⟩,
  ⟨none, none, false, .st 8 (.t 6) (.t 162)⟩,
  ⟨some 7, none, false, .mv (.t 170)⟩] (some [6, 7])
def ir26_23 : IC := .seq ir26_r26 .ret
def ir26_24 : IC := .seq ir26_r25 ir26_23
def ir26_25 : IC := .seq ir26_r24 ir26_24
def ir26_r27 : IC := .reg [⟨some 172, none, false, .cmp .eql (.t 47) (.k (.int .u8 5))⟩,
  ⟨some 171, none, false, .mv (.t 172)⟩] (some [0, 4, 5, 6, 47, 171])
def ir26_r28 : IC := .reg [⟨some 173, none, false, .mv (.t 0)⟩,
  ⟨some 174, none, false, .fad 1 (.t 5)⟩,
  ⟨some 175, none, false, .ldc (.t 174)⟩,
  ⟨some 176, none, false, .fad 2 (.t 5)⟩,
  ⟨some 177, none, false, .ldc (.t 176)⟩,
  ⟨some 178, none, false, .call (.f 68) [(.t 173), (.t 175), (.t 177)]⟩,
  ⟨some 29, none, false, .mv (.t 178)⟩] (some [4, 5, 6, 29])
def ir26_r29 : IC := .reg [⟨some 180, none, false, .lda 8 (.t 4)⟩,
  ⟨some 181, none, false, .fad 1 (.t 5)⟩,
  ⟨some 182, none, false, .ldc (.t 181)⟩,
  ⟨some 183, none, false, .fad 2 (.t 5)⟩,
  ⟨some 184, none, false, .ldc (.t 183)⟩,
  ⟨some 185, none, false, .call (.f 69) [(.t 180), (.t 182), (.t 184)]⟩,
  ⟨some 179, none, false, .mv (.t 185)⟩,
  ⟨some 186, none, false, .ext (.t 179) 0⟩,
  ⟨some 187, none, false, .ext (.t 179) 1⟩,
  ⟨some 30, none, false, .alloc [(.bool false), (.slice none 0 0), (.slice none 0 0), (.slice none 0 0), (.int .i64 0), (.slice none 0 0), (.slice none 0 0), (.slice none 0 0)]⟩,
  ⟨none, none, false, .st 8 (.t 30) (.t 186)⟩,
  ⟨some 31, none, false, .mv (.t 187)⟩] (some [6, 29, 30, 31])
def ir26_r30 : IC := .reg [⟨some 188, none, false, .lda 8 (.t 30)⟩,
  ⟨some 189, none, false, .mv (.t 29)⟩,
  ⟨some 190, none, false, .mv (.t 31)⟩,
  ⟨some 191, none, false, .cmp .eql (.t 189) (.t 190)⟩,
  ⟨none, none, false, .st 8 (.t 6) (.t 188)⟩,
  ⟨some 7, none, false, .mv (.t 191)⟩] (some [6, 7])
def ir26_26 : IC := .seq ir26_r30 .ret
def ir26_27 : IC := .seq ir26_r29 ir26_26
def ir26_28 : IC := .seq ir26_r28 ir26_27
def ir26_r31 : IC := .reg [⟨some 193, none, false, .cmp .eql (.t 47) (.k (.int .u8 6))⟩,
  ⟨some 192, none, false, .mv (.t 193)⟩] (some [0, 4, 5, 6, 47, 192])
def ir26_r32 : IC := .reg [⟨some 195, none, false, .mv (.t 0)⟩,
  ⟨some 196, none, false, .fad 1 (.t 5)⟩,
  ⟨some 197, none, false, .ldc (.t 196)⟩,
  ⟨some 198, none, false, .fad 2 (.t 5)⟩,
  ⟨some 199, none, false, .ldc (.t 198)⟩,
  ⟨some 200, none, false, .call (.f 70) [(.t 195), (.t 197), (.t 199)]⟩,
  ⟨some 194, none, false, .mv (.t 200)⟩,
  ⟨some 201, none, false, .ext (.t 194) 0⟩,
  ⟨some 202, none, false, .ext (.t 194) 1⟩,
  ⟨some 32, none, false, .mv (.t 201)⟩,
  ⟨some 33, none, false, .mv (.t 202)⟩] (some [4, 5, 6, 32, 33])
def ir26_r33 : IC := .reg [⟨some 204, none, false, .lda 8 (.t 4)⟩,
  ⟨some 205, none, false, .fad 1 (.t 5)⟩,
  ⟨some 206, none, false, .ldc (.t 205)⟩,
  ⟨some 207, none, false, .fad 2 (.t 5)⟩,
  ⟨some 208, none, false, .ldc (.t 207)⟩,
  ⟨some 209, none, false, .call (.f 71) [(.t 204), (.t 206), (.t 208)]⟩,
  ⟨some 203, none, false, .mv (.t 209)⟩,
  ⟨some 210, none, false, .ext (.t 203) 0⟩,
  ⟨some 211, none, false, .ext (.t 203) 1⟩,
  ⟨some 212, none, false, .ext (.t 203) 2⟩,
  ⟨some 34, none, false, .alloc [(.bool false), (.slice none 0 0), (.slice none 0 0), (.slice none 0 0), (.int .i64 0), (.slice none 0 0), (.slice none 0 0), (.slice none 0 0)]⟩,
  ⟨none, none, false, .st 8 (.t 34) (.t 210)⟩,
  ⟨some 35, none, false, .mv (.t 211)⟩,
  ⟨some 36, none, false, .mv (.t 212)⟩] (some [6, 32, 33, 34, 35, 36])
def ir26_r34 : IC := .reg [⟨some 213, none, false, .lda 8 (.t 34)⟩,
  ⟨some 214, none, false, .mv (.t 32)⟩,
  ⟨some 215, none, false, .mv (.t 35)⟩,
  ⟨some 216, none, false, .cmpb false (.t 214) (.t 215)⟩,
  ⟨some 217, none, false, .mv (.t 216)⟩,
  ⟨some 218, some (217, true), false, .mv (.t 33)⟩,
  ⟨some 219, some (217, true), false, .mv (.t 36)⟩,
  ⟨some 220, some (217, true), false, .cmp .eql (.t 218) (.t 219)⟩,
  ⟨some 221, none, false, .pick (.t 217) (.t 220) (.k (.bool false))⟩,
  ⟨none, none, false, .st 8 (.t 6) (.t 213)⟩,
  ⟨some 7, none, false, .mv (.t 221)⟩] (some [6, 7])
def ir26_29 : IC := .seq ir26_r34 .ret
def ir26_30 : IC := .seq ir26_r33 ir26_29
def ir26_31 : IC := .seq ir26_r32 ir26_30
def ir26_r35 : IC := .reg [⟨some 223, none, false, .cmp .eql (.t 47) (.k (.int .u8 7))⟩,
  ⟨some 222, none, false, .mv (.t 223)⟩] (some [0, 4, 5, 6, 222])
def ir26_r36 : IC := .reg [⟨some 225, none, false, .mv (.t 0)⟩,
  ⟨some 226, none, false, .fad 1 (.t 5)⟩,
  ⟨some 227, none, false, .ldc (.t 226)⟩,
  ⟨some 228, none, false, .fad 2 (.t 5)⟩,
  ⟨some 229, none, false, .ldc (.t 228)⟩,
  ⟨some 230, none, false, .call (.f 72) [(.t 225), (.t 227), (.t 229)]⟩,
  ⟨some 224, none, false, .mv (.t 230)⟩,
  ⟨some 231, none, false, .ext (.t 224) 0⟩,
  ⟨some 232, none, false, .ext (.t 224) 1⟩,
  ⟨some 37, none, false, .mv (.t 231)⟩,
  ⟨some 38, none, false, .mv (.t 232)⟩] (some [4, 5, 6, 37, 38])
def ir26_r37 : IC := .reg [⟨some 234, none, false, .lda 8 (.t 4)⟩,
  ⟨some 235, none, false, .fad 1 (.t 5)⟩,
  ⟨some 236, none, false, .ldc (.t 235)⟩,
  ⟨some 237, none, false, .fad 2 (.t 5)⟩,
  ⟨some 238, none, false, .ldc (.t 237)⟩,
  ⟨some 239, none, false, .call (.f 73) [(.t 234), (.t 236), (.t 238)]⟩,
  ⟨some 233, none, false, .mv (.t 239)⟩,
  ⟨some 240, none, false, .ext (.t 233) 0⟩,
  ⟨some 241, none, false, .ext (.t 233) 1⟩,
  ⟨some 242, none, false, .ext (.t 233) 2⟩,
  ⟨some 39, none, false, .alloc [(.bool false), (.slice none 0 0), (.slice none 0 0), (.slice none 0 0), (.int .i64 0), (.slice none 0 0), (.slice none 0 0), (.slice none 0 0)]⟩,
  ⟨none, none, false, .st 8 (.t 39) (.t 240)⟩,
  ⟨some 40, none, false, .mv (.t 241)⟩,
  ⟨some 41, none, false, .mv (.t 242)⟩] (some [6, 37, 38, 39, 40, 41])
def ir26_r38 : IC := .reg [⟨some 243, none, false, .lda 8 (.t 39)⟩,
  ⟨some 244, none, false, .mv (.t 37)⟩,
  ⟨some 245, none, false, .mv (.t 40)⟩,
  ⟨some 246, none, false, .cmpb false (.t 244) (.t 245)⟩,
  ⟨some 247, none, false, .mv (.t 246)⟩,
  ⟨some 248, some (247, true), false, .mv (.t 38)⟩,
  ⟨some 249, some (247, true), false, .mv (.t 41)⟩,
  ⟨some 250, some (247, true), false, .cmp .eql (.t 248) (.t 249)⟩,
  ⟨some 251, none, false, .pick (.t 247) (.t 250) (.k (.bool false))⟩,
  ⟨none, none, false, .st 8 (.t 6) (.t 243)⟩,
  ⟨some 7, none, false, .mv (.t 251)⟩] (some [6, 7])
def ir26_32 : IC := .seq ir26_r38 .ret
def ir26_33 : IC := .seq ir26_r37 ir26_32
def ir26_34 : IC := .seq ir26_r36 ir26_33
def ir26_35 : IC := .cond (.t 222) ir26_34 .skip
def ir26_36 : IC := .seq ir26_r35 ir26_35
def ir26_37 : IC := .cond (.t 192) ir26_31 ir26_36
def ir26_38 : IC := .seq ir26_r31 ir26_37
def ir26_39 : IC := .cond (.t 171) ir26_28 ir26_38
def ir26_40 : IC := .seq ir26_r27 ir26_39
def ir26_41 : IC := .cond (.t 141) ir26_25 ir26_40
def ir26_42 : IC := .seq ir26_r23 ir26_41
def ir26_43 : IC := .cond (.t 124) ir26_22 ir26_42
def ir26_44 : IC := .seq ir26_r19 ir26_43
def ir26_45 : IC := .cond (.t 107) ir26_19 ir26_44
def ir26_46 : IC := .seq ir26_r15 ir26_45
def ir26_47 : IC := .cond (.t 70) ir26_16 ir26_46
def ir26_48 : IC := .seq ir26_r6 ir26_47
def ir26_49 : IC := .cond (.t 48) ir26_3 ir26_48
def ir26_50 : IC := .seq ir26_r2 ir26_49
def ir26_51 : IC := .block 0 ir26_50
def ir26_52 : IC := .seq ir26_r1 ir26_51
def ir26_r39 : IC := .reg [⟨some 252, none, false, .mv (.t 0)⟩,
  ⟨some 253, none, false, .fad 1 (.t 5)⟩,
  ⟨some 254, none, false, .ldc (.t 253)⟩,
  ⟨some 255, none, false, .call (.f 74) [(.t 252), (.t 254)]⟩,
  ⟨some 42, none, false, .mv (.t 255)⟩] (some [4, 5, 6, 42])
def ir26_r40 : IC := .reg [⟨some 257, none, false, .lda 8 (.t 4)⟩,
  ⟨some 258, none, false, .fad 1 (.t 5)⟩,
  ⟨some 259, none, false, .ldc (.t 258)⟩,
  ⟨some 260, none, false, .call (.f 75) [(.t 257), (.t 259)]⟩,
  ⟨some 256, none, false, .mv (.t 260)⟩,
  ⟨some 261, none, false, .ext (.t 256) 0⟩,
  ⟨some 262, none, false, .ext (.t 256) 1⟩,
  ⟨some 43, none, false, .alloc [(.bool false), (.slice none 0 0), (.slice none 0 0), (.slice none 0 0), (.int .i64 0), (.slice none 0 0), (.slice none 0 0), (.slice none 0 0)]⟩,
  ⟨none, none, false, .st 8 (.t 43) (.t 261)⟩,
  ⟨some 44, none, false, .mv (.t 262)⟩] (some [6, 42, 43, 44])
def ir26_r41 : IC := .reg [⟨some 263, none, false, .lda 8 (.t 43)⟩,
  ⟨some 264, none, false, .mv (.t 42)⟩,
  ⟨some 265, none, false, .mv (.t 44)⟩,
  ⟨some 266, none, false, .cmp .eql (.t 264) (.t 265)⟩,
  ⟨none, none, false, .st 8 (.t 6) (.t 263)⟩,
  ⟨some 7, none, false, .mv (.t 266)⟩] (some [6, 7])
def ir26_53 : IC := .seq ir26_r41 .ret
def ir26_54 : IC := .seq ir26_r40 ir26_53
def ir26_55 : IC := .seq ir26_r39 ir26_54
def ir26_56 : IC := .seq ir26_52 ir26_55
def ir26_57 : IC := .seq ir26_r0 ir26_56
def ir26 : IC := ir26_57
theorem fn26 : FnIs Try.prog 26 ir26 267 [.cell 6 75, .tmp 7] := ⟨Try.f26, Try.f26.body.getD .skip, Try.func26, by kernel_rfl, by kernel_rfl, by kernel_rfl, by kernel_rfl⟩
/- (*boule/shop.Shop).Lot · slots 50 · names 0:s 1:number 2:s 3:number 6:l 7:e 8:x · results [4, 5] -/
def ir27_r0 : IC := .reg [⟨some 4, none, false, .alloc [(.int .i64 0), (.int .i64 0), (.int .i64 0), (.int .u8 0), (.int .i64 0)]⟩,
  ⟨some 5, none, false, .mv (.k (.int .i64 0))⟩] (some [0, 1, 4])
def ir27_r1 : IC := .reg [⟨some 10, none, false, .mv (.t 0)⟩,
  ⟨some 11, none, false, .mv (.t 1)⟩,
  ⟨some 12, none, false, .call (.f 76) [(.t 10), (.t 11)]⟩,
  ⟨some 9, none, false, .mv (.t 12)⟩,
  ⟨some 13, none, false, .ext (.t 9) 0⟩,
  ⟨some 14, none, false, .ext (.t 9) 1⟩,
  ⟨some 6, none, false, .mv (.t 13)⟩,
  ⟨some 7, none, false, .mv (.t 14)⟩] (some [4, 6, 7])
def ir27_r2 : IC := .reg [⟨some 15, none, false, .mv (.t 7)⟩,
  ⟨some 16, none, false, .cmp .neq (.t 15) (.k (.int .i64 0))⟩] (some [4, 6, 7, 16])
def ir27_r3 : IC := .reg [⟨some 17, none, false, .bld [(.int .i64 0), (.int .i64 0), (.int .i64 0), (.int .u8 0), (.int .i64 0)] []⟩,
  ⟨some 18, none, false, .mv (.t 7)⟩,
  ⟨none, none, false, .st 5 (.t 4) (.t 17)⟩,
  ⟨some 5, none, false, .mv (.t 18)⟩] (some [4, 5])
def ir27_1 : IC := .seq ir27_r3 .ret
def ir27_2 : IC := .cond (.t 16) ir27_1 .skip
def ir27_3 : IC := .seq ir27_r2 ir27_2
def ir27_r4 : IC := .draw [(⟨some 19, none, false, .mv (.t 6)⟩, false, 0, 0),
  (⟨some 20, none, false, .nilck (.t 19)⟩, false, 1, 0),
  (⟨some 21, none, false, .fad 0 (.t 20)⟩, false, 3, 0),
  (⟨some 22, none, false, .ldc (.t 21)⟩, false, 7, 1),
  (⟨some 23, none, false, .mv (.t 6)⟩, false, 0, 0),
  (⟨some 24, none, false, .nilck (.t 23)⟩, false, 16, 0),
  (⟨some 25, none, false, .fad 2 (.t 24)⟩, false, 48, 0),
  (⟨some 26, none, false, .ldc (.t 25)⟩, false, 112, 8),
  (⟨some 27, none, false, .mv (.t 6)⟩, false, 0, 0),
  (⟨some 28, none, false, .nilck (.t 27)⟩, false, 256, 0),
  (⟨some 29, none, false, .fad 3 (.t 28)⟩, false, 768, 0),
  (⟨some 30, none, false, .ldc (.t 29)⟩, false, 1792, 120),
  (⟨some 31, none, false, .mv (.t 6)⟩, false, 0, 0),
  (⟨some 32, none, false, .nilck (.t 31)⟩, false, 4096, 0),
  (⟨some 33, none, false, .fad 4 (.t 32)⟩, false, 12288, 0),
  (⟨some 34, none, false, .ldc (.t 33)⟩, false, 28672, 1912),
  (⟨some 35, none, false, .bld [(.int .i64 0), (.int .i64 0), (.int .i64 0), (.int .u8 0), (.int .i64 0)] [(0, 1, (.t 22)), (1, 1, (.k (.int .i64 (-1)))), (2, 1, (.t 26)), (3, 1, (.t 30)), (4, 1, (.t 34))]⟩, false, 65535, 0),
  (⟨some 8, none, false, .alloc [(.int .i64 0), (.int .i64 0), (.int .i64 0), (.int .u8 0), (.int .i64 0)]⟩, false, 0, 30584),
  (⟨none, none, false, .st 5 (.t 8) (.t 35)⟩, true, 262143, 1)] (some [4, 6, 8])
def ir27_r5 : IC := .reg [⟨some 36, none, false, .mv (.t 6)⟩,
  ⟨some 37, none, false, .nilck (.t 36)⟩,
  ⟨some 38, none, false, .fad 1 (.t 37)⟩,
  ⟨some 39, none, false, .ldc (.t 38)⟩,
  ⟨some 40, none, false, .gen (.binOp .neq 140 (.tmp 39) (.const (.pointer none)) 140)⟩] (some [4, 6, 8, 40])
def ir27_r6 : IC := .reg [⟨some 41, none, false, .mv (.t 6)⟩,
  ⟨some 42, none, false, .nilck (.t 41)⟩,
  ⟨some 43, none, false, .fad 1 (.t 42)⟩,
  ⟨some 44, none, false, .ldc (.t 43)⟩,
  ⟨some 45, none, false, .nilck (.t 44)⟩,
  ⟨some 46, none, false, .fad 5 (.t 45)⟩,
  ⟨some 47, none, false, .ldc (.t 46)⟩,
  ⟨some 48, none, false, .fad 1 (.t 8)⟩,
  ⟨none, none, false, .st 1 (.t 48) (.t 47)⟩] (some [4, 8])
def ir27_4 : IC := .cond (.t 40) ir27_r6 .skip
def ir27_5 : IC := .seq ir27_r5 ir27_4
def ir27_r7 : IC := .reg [⟨some 49, none, false, .lda 5 (.t 8)⟩,
  ⟨none, none, false, .st 5 (.t 4) (.t 49)⟩,
  ⟨some 5, none, false, .mv (.k (.int .i64 0))⟩] (some [4, 5])
def ir27_6 : IC := .seq ir27_r7 .ret
def ir27_7 : IC := .seq ir27_5 ir27_6
def ir27_8 : IC := .seq ir27_r4 ir27_7
def ir27_9 : IC := .seq ir27_3 ir27_8
def ir27_10 : IC := .seq ir27_r1 ir27_9
def ir27_11 : IC := .seq ir27_r0 ir27_10
def ir27 : IC := ir27_11
theorem fn27 : FnIs Try.prog 27 ir27 50 [.cell 4 80, .tmp 5] := ⟨Try.f27, Try.f27.body.getD .skip, Try.func27, by kernel_rfl, by kernel_rfl, by kernel_rfl, by kernel_rfl⟩
/- (*boule/shop.Shop).Tool · slots 61 · names 0:s 1:number 2:s 3:number 6:t 7:e 8:x 9:r · results [4, 5] -/
def ir28_r0 : IC := .reg [⟨some 4, none, false, .alloc [(.int .i64 0), (.int .i64 0), (.slice none 0 0), (.int .i64 0), (.bool false), (.int .i64 0), (.slice none 0 0)]⟩,
  ⟨some 5, none, false, .mv (.k (.int .i64 0))⟩] (some [0, 1, 4])
def ir28_r1 : IC := .reg [⟨some 11, none, false, .mv (.t 0)⟩,
  ⟨some 12, none, false, .mv (.t 1)⟩,
  ⟨some 13, none, false, .call (.f 77) [(.t 11), (.t 12)]⟩,
  ⟨some 10, none, false, .mv (.t 13)⟩,
  ⟨some 14, none, false, .ext (.t 10) 0⟩,
  ⟨some 15, none, false, .ext (.t 10) 1⟩,
  ⟨some 6, none, false, .mv (.t 14)⟩,
  ⟨some 7, none, false, .mv (.t 15)⟩] (some [4, 6, 7])
def ir28_r2 : IC := .reg [⟨some 16, none, false, .mv (.t 7)⟩,
  ⟨some 17, none, false, .cmp .neq (.t 16) (.k (.int .i64 0))⟩] (some [4, 6, 7, 17])
def ir28_r3 : IC := .reg [⟨some 18, none, false, .bld [(.int .i64 0), (.int .i64 0), (.slice none 0 0), (.int .i64 0), (.bool false), (.int .i64 0), (.slice none 0 0)] []⟩,
  ⟨some 19, none, false, .mv (.t 7)⟩,
  ⟨none, none, false, .st 7 (.t 4) (.t 18)⟩,
  ⟨some 5, none, false, .mv (.t 19)⟩] (some [4, 5])
def ir28_1 : IC := .seq ir28_r3 .ret
def ir28_2 : IC := .cond (.t 17) ir28_1 .skip
def ir28_3 : IC := .seq ir28_r2 ir28_2
def ir28_r4 : IC := .draw [(⟨some 20, none, false, .mv (.t 6)⟩, false, 0, 0),
  (⟨some 21, none, false, .nilck (.t 20)⟩, false, 1, 0),
  (⟨some 22, none, false, .fad 7 (.t 21)⟩, false, 3, 0),
  (⟨some 23, none, false, .ldc (.t 22)⟩, false, 7, 1),
  (⟨some 24, none, false, .mv (.t 6)⟩, false, 0, 0),
  (⟨some 25, none, false, .nilck (.t 24)⟩, false, 16, 0),
  (⟨some 26, none, false, .fad 8 (.t 25)⟩, false, 48, 0),
  (⟨some 27, none, false, .ldc (.t 26)⟩, false, 112, 8),
  (⟨some 28, none, false, .mv (.t 6)⟩, false, 0, 0),
  (⟨some 29, none, false, .nilck (.t 28)⟩, false, 256, 0),
  (⟨some 30, none, false, .fad 9 (.t 29)⟩, false, 768, 0),
  (⟨some 31, none, false, .ldc (.t 30)⟩, false, 1792, 120),
  (⟨some 32, none, false, .mv (.t 6)⟩, false, 0, 0),
  (⟨some 33, none, false, .nilck (.t 32)⟩, false, 4096, 0),
  (⟨some 34, none, false, .fad 11 (.t 33)⟩, false, 12288, 0),
  (⟨some 35, none, false, .ldc (.t 34)⟩, false, 28672, 1912),
  (⟨some 36, none, false, .call (.f 78) [(.t 35)]⟩, false, 61440, 1912),
  (⟨some 37, none, false, .bld [(.int .i64 0), (.int .i64 0), (.slice none 0 0), (.int .i64 0), (.bool false), (.int .i64 0), (.slice none 0 0)] [(0, 1, (.k (.int .i64 (-1)))), (3, 1, (.t 23)), (4, 1, (.t 27)), (5, 1, (.t 31)), (6, 1, (.t 36))]⟩, false, 131071, 0),
  (⟨some 8, none, false, .alloc [(.int .i64 0), (.int .i64 0), (.slice none 0 0), (.int .i64 0), (.bool false), (.int .i64 0), (.slice none 0 0)]⟩, false, 0, 63352),
  (⟨none, none, false, .st 7 (.t 8) (.t 37)⟩, true, 524287, 1)] (some [4, 6, 8])
def ir28_r5 : IC := .reg [⟨some 38, none, false, .mv (.t 6)⟩,
  ⟨some 39, none, false, .nilck (.t 38)⟩,
  ⟨some 40, none, false, .fad 6 (.t 39)⟩,
  ⟨some 41, none, false, .ldc (.t 40)⟩,
  ⟨some 9, none, false, .mv (.t 41)⟩] (some [4, 8, 9])
def ir28_r6 : IC := .reg [⟨some 42, none, false, .mv (.t 9)⟩,
  ⟨some 43, none, false, .gen (.binOp .neq 146 (.tmp 42) (.const (.pointer none)) 146)⟩] (some [4, 8, 9, 43])
def ir28_r7 : IC := .draw [(⟨some 44, none, false, .mv (.t 9)⟩, false, 0, 0),
  (⟨some 45, none, false, .nilck (.t 44)⟩, false, 1, 0),
  (⟨some 46, none, false, .fad 0 (.t 45)⟩, false, 3, 0),
  (⟨some 47, none, false, .ldc (.t 46)⟩, false, 7, 1),
  (⟨some 48, none, false, .mv (.t 9)⟩, false, 0, 0),
  (⟨some 49, none, false, .nilck (.t 48)⟩, false, 16, 0),
  (⟨some 50, none, false, .fad 1 (.t 49)⟩, false, 48, 0),
  (⟨some 51, none, false, .ldc (.t 50)⟩, false, 112, 8),
  (⟨some 52, none, false, .mv (.t 9)⟩, false, 0, 0),
  (⟨some 53, none, false, .nilck (.t 52)⟩, false, 256, 0),
  (⟨some 54, none, false, .fad 2 (.t 53)⟩, false, 768, 0),
  (⟨some 55, none, false, .ldc (.t 54)⟩, false, 1792, 120),
  (⟨some 56, none, false, .call (.f 78) [(.t 55)]⟩, false, 3840, 120),
  (⟨some 57, none, false, .fad 0 (.t 8)⟩, false, 15, 0),
  (⟨none, none, false, .st 1 (.t 57) (.t 47)⟩, false, 16143, 113),
  (⟨some 58, none, false, .fad 1 (.t 8)⟩, false, 32767, 0),
  (⟨none, none, false, .st 1 (.t 58) (.t 51)⟩, true, 65535, 1),
  (⟨some 59, none, false, .fad 2 (.t 8)⟩, false, 131071, 0),
  (⟨none, none, false, .st 1 (.t 59) (.t 56)⟩, true, 262143, 1)] (some [4, 8])
def ir28_4 : IC := .cond (.t 43) ir28_r7 .skip
def ir28_5 : IC := .seq ir28_r6 ir28_4
def ir28_6 : IC := .seq ir28_r5 ir28_5
def ir28_r8 : IC := .reg [⟨some 60, none, false, .lda 7 (.t 8)⟩,
  ⟨none, none, false, .st 7 (.t 4) (.t 60)⟩,
  ⟨some 5, none, false, .mv (.k (.int .i64 0))⟩] (some [4, 5])
def ir28_7 : IC := .seq ir28_r8 .ret
def ir28_8 : IC := .seq ir28_6 ir28_7
def ir28_9 : IC := .seq ir28_r4 ir28_8
def ir28_10 : IC := .seq ir28_3 ir28_9
def ir28_11 : IC := .seq ir28_r1 ir28_10
def ir28_12 : IC := .seq ir28_r0 ir28_11
def ir28 : IC := ir28_12
theorem fn28 : FnIs Try.prog 28 ir28 61 [.cell 4 84, .tmp 5] := ⟨Try.f28, Try.f28.body.getD .skip, Try.func28, by kernel_rfl, by kernel_rfl, by kernel_rfl, by kernel_rfl⟩
abbrev lo0 : Value := .agg ⟨[.int .i64 0, .int .i64 0, .int .i64 0, .int .u8 0, .int .i64 0]⟩
abbrev st0 : Value := .agg ⟨[.int .i64 0, .int .i64 0, s0N, .int .i64 0, .bool false, .int .i64 0, s0N]⟩
theorem lotS_f (a : Int) {h : AH} (hs : h.sees 0 = true) : Fc Try.prog 27 [pN, .int .i64 a] h (.tuple #[lo0, one]) h := by
  refine Fc.lift0 ?_ rfl rfl hs
  refine Fc.intro0 fn27 (by simp) rfl rfl ?_; simp only [argF]
  refine ITri.seq ?_
  refine ITri.reg pokT ?_; simp -implicitDefEqProofs (disch := first | decide | exact of_eq_true (eq_true rfl) | omega | assumption) only [ ↓vcD, vcE, evs, evP, evB, intsOf, fillC, Value.cells, pt, List.append_nil, List.nil_append, List.cons_append, List.length_cons, List.length_nil, List.filter_nil, List.map_nil, ↓List.getElem?_cons_zero, ↓List.getElem?_cons_succ, List.getElem?_cons_zero, List.getElem?_cons_succ, List.set_cons_zero, List.set_cons_succ, Option.join_some, Option.join_none, Option.map_some, List.all_cons, List.all_nil, Value.oneCell', reduceIte, reduceCtorEq, Nat.reduceEqDiff, Nat.reduceAdd, Nat.reduceMul, Nat.reduceLT, Nat.reduceBEq, Nat.reduceLeDiff, Nat.reduceSub, List.size_toArray]
  refine ITri.seq ?_
  refine ITri.reg pokT ?_; simp -implicitDefEqProofs (disch := first | decide | exact of_eq_true (eq_true rfl) | omega | assumption) only [ ↓vcD, vcE, evs, evP, evB, intsOf, fillC, Value.cells, pt, List.append_nil, List.nil_append, List.cons_append, List.length_cons, List.length_nil, List.filter_nil, List.map_nil, ↓List.getElem?_cons_zero, ↓List.getElem?_cons_succ, List.getElem?_cons_zero, List.getElem?_cons_succ, List.set_cons_zero, List.set_cons_succ, Option.join_some, Option.join_none, Option.map_some, List.all_cons, List.all_nil, Value.oneCell', reduceIte, reduceCtorEq, Nat.reduceEqDiff, Nat.reduceAdd, Nat.reduceMul, Nat.reduceLT, Nat.reduceBEq, Nat.reduceLeDiff, Nat.reduceSub, List.size_toArray]
  refine ⟨_, _, lotN_f _ (sees0 rfl (of_decide_eq_true rfl)), ?_⟩
  try simp -implicitDefEqProofs (disch := first | decide | exact of_eq_true (eq_true rfl) | omega | assumption) only [ ↓vcD, vcE, evs, evP, evB, intsOf, fillC, Value.cells, pt, List.append_nil, List.nil_append, List.cons_append, List.length_cons, List.length_nil, List.filter_nil, List.map_nil, ↓List.getElem?_cons_zero, ↓List.getElem?_cons_succ, List.getElem?_cons_zero, List.getElem?_cons_succ, List.set_cons_zero, List.set_cons_succ, Option.join_some, Option.join_none, Option.map_some, List.all_cons, List.all_nil, Value.oneCell', reduceIte, reduceCtorEq, Nat.reduceEqDiff, Nat.reduceAdd, Nat.reduceMul, Nat.reduceLT, Nat.reduceBEq, Nat.reduceLeDiff, Nat.reduceSub, List.size_toArray]
  refine ITri.seq ?_
  refine ITri.seq ?_
  refine ITri.reg pokT ?_; simp -implicitDefEqProofs (disch := first | decide | exact of_eq_true (eq_true rfl) | omega | assumption) only [ ↓vcD, vcE, evs, evP, evB, intsOf, fillC, Value.cells, pt, List.append_nil, List.nil_append, List.cons_append, List.length_cons, List.length_nil, List.filter_nil, List.map_nil, ↓List.getElem?_cons_zero, ↓List.getElem?_cons_succ, List.getElem?_cons_zero, List.getElem?_cons_succ, List.set_cons_zero, List.set_cons_succ, Option.join_some, Option.join_none, Option.map_some, List.all_cons, List.all_nil, Value.oneCell', reduceIte, reduceCtorEq, Nat.reduceEqDiff, Nat.reduceAdd, Nat.reduceMul, Nat.reduceLT, Nat.reduceBEq, Nat.reduceLeDiff, Nat.reduceSub, List.size_toArray]
  refine ITri.cond (v := true) rfl (fun _ => ?_) (fun h => by cases h)
  refine ITri.seq ?_
  refine ITri.reg pokT ?_; simp -implicitDefEqProofs (disch := first | decide | exact of_eq_true (eq_true rfl) | omega | assumption) only [ ↓vcD, vcE, evs, evP, evB, intsOf, fillC, Value.cells, pt, List.append_nil, List.nil_append, List.cons_append, List.length_cons, List.length_nil, List.filter_nil, List.map_nil, ↓List.getElem?_cons_zero, ↓List.getElem?_cons_succ, List.getElem?_cons_zero, List.getElem?_cons_succ, List.set_cons_zero, List.set_cons_succ, Option.join_some, Option.join_none, Option.map_some, List.all_cons, List.all_nil, Value.oneCell', reduceIte, reduceCtorEq, Nat.reduceEqDiff, Nat.reduceAdd, Nat.reduceMul, Nat.reduceLT, Nat.reduceBEq, Nat.reduceLeDiff, Nat.reduceSub, List.size_toArray]
  refine ITri.ret ?_; exact EndR.plain (vs := [lo0, one]) (by simp) (resF_agg 5 rfl (by kernel_rfl) (by simp -implicitDefEqProofs (disch := first | decide | exact of_eq_true (eq_true rfl) | omega | assumption) only [↓vcD, vcE, evs, evP, evB, intsOf, fillC, Value.cells, pt, List.append_nil, List.nil_append, List.cons_append, List.length_cons, List.length_nil, List.filter_nil, List.map_nil, ↓List.getElem?_cons_zero, ↓List.getElem?_cons_succ, List.getElem?_cons_zero, List.getElem?_cons_succ, List.set_cons_zero, List.set_cons_succ, Option.join_some, Option.join_none, Option.map_some, List.all_cons, List.all_nil, Value.oneCell', reduceIte, reduceCtorEq, Nat.reduceEqDiff, Nat.reduceAdd, Nat.reduceMul, Nat.reduceLT, Nat.reduceBEq, Nat.reduceLeDiff, Nat.reduceSub, List.size_toArray]) (resF_tmp rfl resF_nil)) (by rfl) (by rfl)
theorem toolS_f (a : Int) {h : AH} (hs : h.sees 0 = true) : Fc Try.prog 28 [pN, .int .i64 a] h (.tuple #[st0, one]) h := by
  refine Fc.lift0 ?_ rfl rfl hs
  refine Fc.intro0 fn28 (by simp) rfl rfl ?_; simp only [argF]
  refine ITri.seq ?_
  refine ITri.reg pokT ?_; simp -implicitDefEqProofs (disch := first | decide | exact of_eq_true (eq_true rfl) | omega | assumption) only [ ↓vcD, vcE, evs, evP, evB, intsOf, fillC, Value.cells, pt, List.append_nil, List.nil_append, List.cons_append, List.length_cons, List.length_nil, List.filter_nil, List.map_nil, ↓List.getElem?_cons_zero, ↓List.getElem?_cons_succ, List.getElem?_cons_zero, List.getElem?_cons_succ, List.set_cons_zero, List.set_cons_succ, Option.join_some, Option.join_none, Option.map_some, List.all_cons, List.all_nil, Value.oneCell', reduceIte, reduceCtorEq, Nat.reduceEqDiff, Nat.reduceAdd, Nat.reduceMul, Nat.reduceLT, Nat.reduceBEq, Nat.reduceLeDiff, Nat.reduceSub, List.size_toArray]
  refine ITri.seq ?_
  refine ITri.reg pokT ?_; simp -implicitDefEqProofs (disch := first | decide | exact of_eq_true (eq_true rfl) | omega | assumption) only [ ↓vcD, vcE, evs, evP, evB, intsOf, fillC, Value.cells, pt, List.append_nil, List.nil_append, List.cons_append, List.length_cons, List.length_nil, List.filter_nil, List.map_nil, ↓List.getElem?_cons_zero, ↓List.getElem?_cons_succ, List.getElem?_cons_zero, List.getElem?_cons_succ, List.set_cons_zero, List.set_cons_succ, Option.join_some, Option.join_none, Option.map_some, List.all_cons, List.all_nil, Value.oneCell', reduceIte, reduceCtorEq, Nat.reduceEqDiff, Nat.reduceAdd, Nat.reduceMul, Nat.reduceLT, Nat.reduceBEq, Nat.reduceLeDiff, Nat.reduceSub, List.size_toArray]
  refine ⟨_, _, toolN_f _ (sees0 rfl (of_decide_eq_true rfl)), ?_⟩
  try simp -implicitDefEqProofs (disch := first | decide | exact of_eq_true (eq_true rfl) | omega | assumption) only [ ↓vcD, vcE, evs, evP, evB, intsOf, fillC, Value.cells, pt, List.append_nil, List.nil_append, List.cons_append, List.length_cons, List.length_nil, List.filter_nil, List.map_nil, ↓List.getElem?_cons_zero, ↓List.getElem?_cons_succ, List.getElem?_cons_zero, List.getElem?_cons_succ, List.set_cons_zero, List.set_cons_succ, Option.join_some, Option.join_none, Option.map_some, List.all_cons, List.all_nil, Value.oneCell', reduceIte, reduceCtorEq, Nat.reduceEqDiff, Nat.reduceAdd, Nat.reduceMul, Nat.reduceLT, Nat.reduceBEq, Nat.reduceLeDiff, Nat.reduceSub, List.size_toArray]
  refine ITri.seq ?_
  refine ITri.seq ?_
  refine ITri.reg pokT ?_; simp -implicitDefEqProofs (disch := first | decide | exact of_eq_true (eq_true rfl) | omega | assumption) only [ ↓vcD, vcE, evs, evP, evB, intsOf, fillC, Value.cells, pt, List.append_nil, List.nil_append, List.cons_append, List.length_cons, List.length_nil, List.filter_nil, List.map_nil, ↓List.getElem?_cons_zero, ↓List.getElem?_cons_succ, List.getElem?_cons_zero, List.getElem?_cons_succ, List.set_cons_zero, List.set_cons_succ, Option.join_some, Option.join_none, Option.map_some, List.all_cons, List.all_nil, Value.oneCell', reduceIte, reduceCtorEq, Nat.reduceEqDiff, Nat.reduceAdd, Nat.reduceMul, Nat.reduceLT, Nat.reduceBEq, Nat.reduceLeDiff, Nat.reduceSub, List.size_toArray]
  refine ITri.cond (v := true) rfl (fun _ => ?_) (fun h => by cases h)
  refine ITri.seq ?_
  refine ITri.reg pokT ?_; simp -implicitDefEqProofs (disch := first | decide | exact of_eq_true (eq_true rfl) | omega | assumption) only [ ↓vcD, vcE, evs, evP, evB, intsOf, fillC, Value.cells, pt, List.append_nil, List.nil_append, List.cons_append, List.length_cons, List.length_nil, List.filter_nil, List.map_nil, ↓List.getElem?_cons_zero, ↓List.getElem?_cons_succ, List.getElem?_cons_zero, List.getElem?_cons_succ, List.set_cons_zero, List.set_cons_succ, Option.join_some, Option.join_none, Option.map_some, List.all_cons, List.all_nil, Value.oneCell', reduceIte, reduceCtorEq, Nat.reduceEqDiff, Nat.reduceAdd, Nat.reduceMul, Nat.reduceLT, Nat.reduceBEq, Nat.reduceLeDiff, Nat.reduceSub, List.size_toArray]
  refine ITri.ret ?_; exact EndR.plain (vs := [st0, one]) (by simp) (resF_agg 7 rfl (by kernel_rfl) (by simp -implicitDefEqProofs (disch := first | decide | exact of_eq_true (eq_true rfl) | omega | assumption) only [↓vcD, vcE, evs, evP, evB, intsOf, fillC, Value.cells, pt, List.append_nil, List.nil_append, List.cons_append, List.length_cons, List.length_nil, List.filter_nil, List.map_nil, ↓List.getElem?_cons_zero, ↓List.getElem?_cons_succ, List.getElem?_cons_zero, List.getElem?_cons_succ, List.set_cons_zero, List.set_cons_succ, Option.join_some, Option.join_none, Option.map_some, List.all_cons, List.all_nil, Value.oneCell', reduceIte, reduceCtorEq, Nat.reduceEqDiff, Nat.reduceAdd, Nat.reduceMul, Nat.reduceLT, Nat.reduceBEq, Nat.reduceLeDiff, Nat.reduceSub, List.size_toArray]) (resF_tmp rfl resF_nil)) (by rfl) (by rfl)
set_option maxHeartbeats 1000000 in
theorem doneN_c (n c : Nat) (k a b : Int) (xs : List Int) (hx : xs.length = n) (hb : n ≤ 1000000) (hk : 0 ≤ k ∧ k ≤ 255) :
    Fc Try.prog 26 [pN, shN, .agg ⟨[.int .u8 k, .int .i64 a, .int .i64 b, .slice (some ⟨1, 0, none⟩) n c]⟩] (Hp 2 [none, some (.cells ⟨rows eN xs, 0, false⟩)]) (.tuple #[shN, .bool true]) (Hp 2 [none, some (.cells ⟨rows eN xs, 0, false⟩)]) := by
  refine Fc.intro0 fn26 (by simp) rfl rfl ?_; simp only [argF]
  have hl2 : (rows eN xs).length = n := by rw [rows_len, hx, Nat.mul_one]
  have ht2 : takeC (rows eN xs) 0 n = some (rows eN xs) := takeC_0 _ _ hl2
  have hm0 : 0 ≤ dvI .rem k 9 ∧ dvI .rem k 9 ≤ 8 := by
    rw [dvI_rem hk.1]
    omega
  refine ITri.seq ?_
  refine ITri.reg pokT ?_; simp -implicitDefEqProofs (disch := first | decide | exact of_eq_true (eq_true rfl) | omega | assumption) only [ ↓vcD, vcE, evs, evP, evB, intsOf, fillC, Value.cells, pt, List.append_nil, List.nil_append, List.cons_append, List.length_cons, List.length_nil, List.filter_nil, List.map_nil, ↓List.getElem?_cons_zero, ↓List.getElem?_cons_succ, List.getElem?_cons_zero, List.getElem?_cons_succ, List.set_cons_zero, List.set_cons_succ, Option.join_some, Option.join_none, Option.map_some, List.all_cons, List.all_nil, Value.oneCell', reduceIte, reduceCtorEq, Nat.reduceEqDiff, Nat.reduceAdd, Nat.reduceMul, Nat.reduceLT, Nat.reduceBEq, Nat.reduceLeDiff, Nat.reduceSub, List.size_toArray] -- r0
  refine ITri.seq ?_
  refine ITri.seq ?_
  generalize hm : dvI .rem k 9 = m at *
  refine ITri.reg pokT ?_; simp -implicitDefEqProofs (disch := first | decide | exact of_eq_true (eq_true rfl) | omega | assumption) only [hm,  ↓vcD, vcE, evs, evP, evB, intsOf, fillC, Value.cells, pt, List.append_nil, List.nil_append, List.cons_append, List.length_cons, List.length_nil, List.filter_nil, List.map_nil, ↓List.getElem?_cons_zero, ↓List.getElem?_cons_succ, List.getElem?_cons_zero, List.getElem?_cons_succ, List.set_cons_zero, List.set_cons_succ, Option.join_some, Option.join_none, Option.map_some, List.all_cons, List.all_nil, Value.oneCell', reduceIte, reduceCtorEq, Nat.reduceEqDiff, Nat.reduceAdd, Nat.reduceMul, Nat.reduceLT, Nat.reduceBEq, Nat.reduceLeDiff, Nat.reduceSub, List.size_toArray] -- r1
  refine ITri.block ?_ -- 0
  refine ITri.seq ?_
  refine ITri.reg pokT ?_; simp -implicitDefEqProofs (disch := first | decide | exact of_eq_true (eq_true rfl) | omega | assumption) only [ ↓vcD, vcE, evs, evP, evB, intsOf, fillC, Value.cells, pt, List.append_nil, List.nil_append, List.cons_append, List.length_cons, List.length_nil, List.filter_nil, List.map_nil, ↓List.getElem?_cons_zero, ↓List.getElem?_cons_succ, List.getElem?_cons_zero, List.getElem?_cons_succ, List.set_cons_zero, List.set_cons_succ, Option.join_some, Option.join_none, Option.map_some, List.all_cons, List.all_nil, Value.oneCell', reduceIte, reduceCtorEq, Nat.reduceEqDiff, Nat.reduceAdd, Nat.reduceMul, Nat.reduceLT, Nat.reduceBEq, Nat.reduceLeDiff, Nat.reduceSub, List.size_toArray] -- r2
  refine ITri.condD (by rfl) (fun h1 => ?_) (fun h1 => ?_)
  · refine ITri.seq ?_
    refine ITri.reg pokT ?_; simp -implicitDefEqProofs (disch := first | decide | exact of_eq_true (eq_true rfl) | omega | assumption) only [ ↓vcD, vcE, evs, evP, evB, intsOf, fillC, Value.cells, pt, List.append_nil, List.nil_append, List.cons_append, List.length_cons, List.length_nil, List.filter_nil, List.map_nil, ↓List.getElem?_cons_zero, ↓List.getElem?_cons_succ, List.getElem?_cons_zero, List.getElem?_cons_succ, List.set_cons_zero, List.set_cons_succ, Option.join_some, Option.join_none, Option.map_some, List.all_cons, List.all_nil, Value.oneCell', reduceIte, reduceCtorEq, Nat.reduceEqDiff, Nat.reduceAdd, Nat.reduceMul, Nat.reduceLT, Nat.reduceBEq, Nat.reduceLeDiff, Nat.reduceSub, List.size_toArray]
    refine ⟨_, _, enterN_f (sees0 rfl (of_decide_eq_true rfl)), ?_⟩
    try simp -implicitDefEqProofs (disch := first | decide | exact of_eq_true (eq_true rfl) | omega | assumption) only [ ↓vcD, vcE, evs, evP, evB, intsOf, fillC, Value.cells, pt, List.append_nil, List.nil_append, List.cons_append, List.length_cons, List.length_nil, List.filter_nil, List.map_nil, ↓List.getElem?_cons_zero, ↓List.getElem?_cons_succ, List.getElem?_cons_zero, List.getElem?_cons_succ, List.set_cons_zero, List.set_cons_succ, Option.join_some, Option.join_none, Option.map_some, List.all_cons, List.all_nil, Value.oneCell', reduceIte, reduceCtorEq, Nat.reduceEqDiff, Nat.reduceAdd, Nat.reduceMul, Nat.reduceLT, Nat.reduceBEq, Nat.reduceLeDiff, Nat.reduceSub, List.size_toArray]
    refine ITri.seq ?_
    refine ITri.reg pokT ?_; simp -implicitDefEqProofs (disch := first | decide | exact of_eq_true (eq_true rfl) | omega | assumption) only [ ↓vcD, vcE, evs, evP, evB, intsOf, fillC, Value.cells, pt, List.append_nil, List.nil_append, List.cons_append, List.length_cons, List.length_nil, List.filter_nil, List.map_nil, ↓List.getElem?_cons_zero, ↓List.getElem?_cons_succ, List.getElem?_cons_zero, List.getElem?_cons_succ, List.set_cons_zero, List.set_cons_succ, Option.join_some, Option.join_none, Option.map_some, List.all_cons, List.all_nil, Value.oneCell', reduceIte, reduceCtorEq, Nat.reduceEqDiff, Nat.reduceAdd, Nat.reduceMul, Nat.reduceLT, Nat.reduceBEq, Nat.reduceLeDiff, Nat.reduceSub, List.size_toArray]
    refine ⟨_, _, rEnterN_f (sees0 rfl (of_decide_eq_true rfl)), ?_⟩
    try simp -implicitDefEqProofs (disch := first | decide | exact of_eq_true (eq_true rfl) | omega | assumption) only [ ↓vcD, vcE, evs, evP, evB, intsOf, fillC, Value.cells, pt, List.append_nil, List.nil_append, List.cons_append, List.length_cons, List.length_nil, List.filter_nil, List.map_nil, ↓List.getElem?_cons_zero, ↓List.getElem?_cons_succ, List.getElem?_cons_zero, List.getElem?_cons_succ, List.set_cons_zero, List.set_cons_succ, Option.join_some, Option.join_none, Option.map_some, List.all_cons, List.all_nil, Value.oneCell', reduceIte, reduceCtorEq, Nat.reduceEqDiff, Nat.reduceAdd, Nat.reduceMul, Nat.reduceLT, Nat.reduceBEq, Nat.reduceLeDiff, Nat.reduceSub, List.size_toArray]
    refine ITri.seq ?_
    refine ITri.reg pokT ?_; simp -implicitDefEqProofs (disch := first | decide | exact of_eq_true (eq_true rfl) | omega | assumption) only [decide_true, eq_self, beq_self_eq_true,  ↓vcD, vcE, evs, evP, evB, intsOf, fillC, Value.cells, pt, List.append_nil, List.nil_append, List.cons_append, List.length_cons, List.length_nil, List.filter_nil, List.map_nil, ↓List.getElem?_cons_zero, ↓List.getElem?_cons_succ, List.getElem?_cons_zero, List.getElem?_cons_succ, List.set_cons_zero, List.set_cons_succ, Option.join_some, Option.join_none, Option.map_some, List.all_cons, List.all_nil, Value.oneCell', reduceIte, reduceCtorEq, Nat.reduceEqDiff, Nat.reduceAdd, Nat.reduceMul, Nat.reduceLT, Nat.reduceBEq, Nat.reduceLeDiff, Nat.reduceSub, List.size_toArray]
    refine ITri.ret ?_; exact EndR.plain (vs := [shN, .bool true]) (by simp) (resF_agg 8 rfl (by kernel_rfl) (by simp -implicitDefEqProofs (disch := first | decide | exact of_eq_true (eq_true rfl) | omega | assumption) only [↓vcD, vcE, evs, evP, evB, intsOf, fillC, Value.cells, pt, List.append_nil, List.nil_append, List.cons_append, List.length_cons, List.length_nil, List.filter_nil, List.map_nil, ↓List.getElem?_cons_zero, ↓List.getElem?_cons_succ, List.getElem?_cons_zero, List.getElem?_cons_succ, List.set_cons_zero, List.set_cons_succ, Option.join_some, Option.join_none, Option.map_some, List.all_cons, List.all_nil, Value.oneCell', reduceIte, reduceCtorEq, Nat.reduceEqDiff, Nat.reduceAdd, Nat.reduceMul, Nat.reduceLT, Nat.reduceBEq, Nat.reduceLeDiff, Nat.reduceSub, List.size_toArray]) (resF_tmp rfl resF_nil)) (by rfl) (by rfl)
  refine ITri.seq ?_
  refine ITri.reg pokT ?_; simp -implicitDefEqProofs (disch := first | decide | exact of_eq_true (eq_true rfl) | omega | assumption) only [ ↓vcD, vcE, evs, evP, evB, intsOf, fillC, Value.cells, pt, List.append_nil, List.nil_append, List.cons_append, List.length_cons, List.length_nil, List.filter_nil, List.map_nil, ↓List.getElem?_cons_zero, ↓List.getElem?_cons_succ, List.getElem?_cons_zero, List.getElem?_cons_succ, List.set_cons_zero, List.set_cons_succ, Option.join_some, Option.join_none, Option.map_some, List.all_cons, List.all_nil, Value.oneCell', reduceIte, reduceCtorEq, Nat.reduceEqDiff, Nat.reduceAdd, Nat.reduceMul, Nat.reduceLT, Nat.reduceBEq, Nat.reduceLeDiff, Nat.reduceSub, List.size_toArray]
  refine ITri.condD (by rfl) (fun h2 => ?_) (fun h2 => ?_)
  · refine ITri.seq ?_
    by_cases hn : n = 0
    · have e2 : xs = [] := List.eq_nil_of_length_eq_zero (by omega)
      subst hn
      subst e2
      refine ITri.reg pokT ?_; simp -implicitDefEqProofs (disch := first | decide | exact of_eq_true (eq_true rfl) | omega | assumption) only [appK_0, rows_nil,  ↓vcD, vcE, evs, evP, evB, intsOf, fillC, Value.cells, pt, List.append_nil, List.nil_append, List.cons_append, List.length_cons, List.length_nil, List.filter_nil, List.map_nil, ↓List.getElem?_cons_zero, ↓List.getElem?_cons_succ, List.getElem?_cons_zero, List.getElem?_cons_succ, List.set_cons_zero, List.set_cons_succ, Option.join_some, Option.join_none, Option.map_some, List.all_cons, List.all_nil, Value.oneCell', reduceIte, reduceCtorEq, Nat.reduceEqDiff, Nat.reduceAdd, Nat.reduceMul, Nat.reduceLT, Nat.reduceBEq, Nat.reduceLeDiff, Nat.reduceSub, List.size_toArray]
      refine ITri.seq ?_
      refine ITri.reg pokT ?_; simp -implicitDefEqProofs (disch := first | decide | exact of_eq_true (eq_true rfl) | omega | assumption) only [ ↓vcD, vcE, evs, evP, evB, intsOf, fillC, Value.cells, pt, List.append_nil, List.nil_append, List.cons_append, List.length_cons, List.length_nil, List.filter_nil, List.map_nil, ↓List.getElem?_cons_zero, ↓List.getElem?_cons_succ, List.getElem?_cons_zero, List.getElem?_cons_succ, List.set_cons_zero, List.set_cons_succ, Option.join_some, Option.join_none, Option.map_some, List.all_cons, List.all_nil, Value.oneCell', reduceIte, reduceCtorEq, Nat.reduceEqDiff, Nat.reduceAdd, Nat.reduceMul, Nat.reduceLT, Nat.reduceBEq, Nat.reduceLeDiff, Nat.reduceSub, List.size_toArray]
      refine ⟨_, _, startN_f (n := 0) (xs := []) _ _ (sees0 rfl (of_decide_eq_true rfl)) (Rd.hq rfl rfl), ?_⟩
      try simp -implicitDefEqProofs (disch := first | decide | exact of_eq_true (eq_true rfl) | omega | assumption) only [ ↓vcD, vcE, evs, evP, evB, intsOf, fillC, Value.cells, pt, List.append_nil, List.nil_append, List.cons_append, List.length_cons, List.length_nil, List.filter_nil, List.map_nil, ↓List.getElem?_cons_zero, ↓List.getElem?_cons_succ, List.getElem?_cons_zero, List.getElem?_cons_succ, List.set_cons_zero, List.set_cons_succ, Option.join_some, Option.join_none, Option.map_some, List.all_cons, List.all_nil, Value.oneCell', reduceIte, reduceCtorEq, Nat.reduceEqDiff, Nat.reduceAdd, Nat.reduceMul, Nat.reduceLT, Nat.reduceBEq, Nat.reduceLeDiff, Nat.reduceSub, List.size_toArray]
      refine ITri.seq ?_
      refine ITri.reg pokT ?_; simp -implicitDefEqProofs (disch := first | decide | exact of_eq_true (eq_true rfl) | omega | assumption) only [ ↓vcD, vcE, evs, evP, evB, intsOf, fillC, Value.cells, pt, List.append_nil, List.nil_append, List.cons_append, List.length_cons, List.length_nil, List.filter_nil, List.map_nil, ↓List.getElem?_cons_zero, ↓List.getElem?_cons_succ, List.getElem?_cons_zero, List.getElem?_cons_succ, List.set_cons_zero, List.set_cons_succ, Option.join_some, Option.join_none, Option.map_some, List.all_cons, List.all_nil, Value.oneCell', reduceIte, reduceCtorEq, Nat.reduceEqDiff, Nat.reduceAdd, Nat.reduceMul, Nat.reduceLT, Nat.reduceBEq, Nat.reduceLeDiff, Nat.reduceSub, List.size_toArray]
      refine ⟨_, _, rStartN_f (n := 0) (xs := []) _ _ (sees0 rfl (of_decide_eq_true rfl)) (Rd.hq rfl rfl), ?_⟩
      try simp -implicitDefEqProofs (disch := first | decide | exact of_eq_true (eq_true rfl) | omega | assumption) only [ ↓vcD, vcE, evs, evP, evB, intsOf, fillC, Value.cells, pt, List.append_nil, List.nil_append, List.cons_append, List.length_cons, List.length_nil, List.filter_nil, List.map_nil, ↓List.getElem?_cons_zero, ↓List.getElem?_cons_succ, List.getElem?_cons_zero, List.getElem?_cons_succ, List.set_cons_zero, List.set_cons_succ, Option.join_some, Option.join_none, Option.map_some, List.all_cons, List.all_nil, Value.oneCell', reduceIte, reduceCtorEq, Nat.reduceEqDiff, Nat.reduceAdd, Nat.reduceMul, Nat.reduceLT, Nat.reduceBEq, Nat.reduceLeDiff, Nat.reduceSub, List.size_toArray]
      refine ITri.seq ?_
      refine ITri.seq ?_
      refine ITri.reg pokT ?_; simp -implicitDefEqProofs (disch := first | decide | exact of_eq_true (eq_true rfl) | omega | assumption) only [ ↓vcD, vcE, evs, evP, evB, intsOf, fillC, Value.cells, pt, List.append_nil, List.nil_append, List.cons_append, List.length_cons, List.length_nil, List.filter_nil, List.map_nil, ↓List.getElem?_cons_zero, ↓List.getElem?_cons_succ, List.getElem?_cons_zero, List.getElem?_cons_succ, List.set_cons_zero, List.set_cons_succ, Option.join_some, Option.join_none, Option.map_some, List.all_cons, List.all_nil, Value.oneCell', reduceIte, reduceCtorEq, Nat.reduceEqDiff, Nat.reduceAdd, Nat.reduceMul, Nat.reduceLT, Nat.reduceBEq, Nat.reduceLeDiff, Nat.reduceSub, List.size_toArray]
      refine ITri.block ?_
      refine ITri.loop (fun i : Nat => [(6, pt 4), (13, .slice (some ⟨5, 0, none⟩) 0 0), (14, one), (15, pt 6), (16, one), (17, .int .i64 0)]) (fun _ => []) (fun i => Hp 2 [none, some (.cells ⟨[], 0, false⟩), some (.cells ⟨[.bool true, s0N, s0N, s0N, .int .i64 0, s0N, s0N, s0N], 1, false⟩), some (.cells ⟨[.int .u8 k, .int .i64 a, .int .i64 b, .slice (some ⟨1, 0, none⟩) 0 c], 1, false⟩), some (.cells ⟨[.bool false, s0N, s0N, s0N, .int .i64 0, s0N, s0N, s0N], 1, false⟩), some (.cells ⟨[], 1, false⟩), some (.cells ⟨[.bool true, s0N, s0N, s0N, .int .i64 0, s0N, s0N, s0N], 1, false⟩)]) (fun k => True) (fun k => 0) 0 trivial (Wk.sub ⟨rfl, rfl, rfl, rfl, rfl, rfl, trivial⟩) fun i hi => ?_
      refine ITri.seq ?_
      refine ITri.seq ?_
      refine ITri.reg pokT ?_; simp -implicitDefEqProofs (disch := first | decide | exact of_eq_true (eq_true rfl) | omega | assumption) only [ ↓vcD, vcE, evs, evP, evB, intsOf, fillC, Value.cells, pt, List.append_nil, List.nil_append, List.cons_append, List.length_cons, List.length_nil, List.filter_nil, List.map_nil, ↓List.getElem?_cons_zero, ↓List.getElem?_cons_succ, List.getElem?_cons_zero, List.getElem?_cons_succ, List.set_cons_zero, List.set_cons_succ, Option.join_some, Option.join_none, Option.map_some, List.all_cons, List.all_nil, Value.oneCell', reduceIte, reduceCtorEq, Nat.reduceEqDiff, Nat.reduceAdd, Nat.reduceMul, Nat.reduceLT, Nat.reduceBEq, Nat.reduceLeDiff, Nat.reduceSub, List.size_toArray]
      refine ITri.cond (v := false) rfl (fun h => by cases h) (fun _ => ?_)
      refine ITri.exit ?_; try simp -implicitDefEqProofs (disch := first | decide | exact of_eq_true (eq_true rfl) | omega | assumption) only [ ↓vcD, vcE, evs, evP, evB, intsOf, fillC, Value.cells, pt, List.append_nil, List.nil_append, List.cons_append, List.length_cons, List.length_nil, List.filter_nil, List.map_nil, ↓List.getElem?_cons_zero, ↓List.getElem?_cons_succ, List.getElem?_cons_zero, List.getElem?_cons_succ, List.set_cons_zero, List.set_cons_succ, Option.join_some, Option.join_none, Option.map_some, List.all_cons, List.all_nil, Value.oneCell', reduceIte, reduceCtorEq, Nat.reduceEqDiff, Nat.reduceAdd, Nat.reduceMul, Nat.reduceLT, Nat.reduceBEq, Nat.reduceLeDiff, Nat.reduceSub, List.size_toArray]
      refine ITri.seq ?_
      refine ITri.reg pokT ?_; simp -implicitDefEqProofs (disch := first | decide | exact of_eq_true (eq_true rfl) | omega | assumption) only [decide_true, eq_self, beq_self_eq_true,  ↓vcD, vcE, evs, evP, evB, intsOf, fillC, Value.cells, pt, List.append_nil, List.nil_append, List.cons_append, List.length_cons, List.length_nil, List.filter_nil, List.map_nil, ↓List.getElem?_cons_zero, ↓List.getElem?_cons_succ, List.getElem?_cons_zero, List.getElem?_cons_succ, List.set_cons_zero, List.set_cons_succ, Option.join_some, Option.join_none, Option.map_some, List.all_cons, List.all_nil, Value.oneCell', reduceIte, reduceCtorEq, Nat.reduceEqDiff, Nat.reduceAdd, Nat.reduceMul, Nat.reduceLT, Nat.reduceBEq, Nat.reduceLeDiff, Nat.reduceSub, List.size_toArray]
      refine ITri.ret ?_; exact EndR.plain (vs := [shN, .bool true]) (by simp) (resF_agg 8 rfl (by kernel_rfl) (by simp -implicitDefEqProofs (disch := first | decide | exact of_eq_true (eq_true rfl) | omega | assumption) only [↓vcD, vcE, evs, evP, evB, intsOf, fillC, Value.cells, pt, List.append_nil, List.nil_append, List.cons_append, List.length_cons, List.length_nil, List.filter_nil, List.map_nil, ↓List.getElem?_cons_zero, ↓List.getElem?_cons_succ, List.getElem?_cons_zero, List.getElem?_cons_succ, List.set_cons_zero, List.set_cons_succ, Option.join_some, Option.join_none, Option.map_some, List.all_cons, List.all_nil, Value.oneCell', reduceIte, reduceCtorEq, Nat.reduceEqDiff, Nat.reduceAdd, Nat.reduceMul, Nat.reduceLT, Nat.reduceBEq, Nat.reduceLeDiff, Nat.reduceSub, List.size_toArray]) (resF_tmp rfl resF_nil)) (by rfl) (by rfl)
    · refine ITri.reg pokT ?_; simp -implicitDefEqProofs (disch := first | decide | exact of_eq_true (eq_true rfl) | omega | assumption) only [ht2, hl2, rows_allT,  ↓vcD, vcE, evs, evP, evB, intsOf, fillC, Value.cells, pt, List.append_nil, List.nil_append, List.cons_append, List.length_cons, List.length_nil, List.filter_nil, List.map_nil, ↓List.getElem?_cons_zero, ↓List.getElem?_cons_succ, List.getElem?_cons_zero, List.getElem?_cons_succ, List.set_cons_zero, List.set_cons_succ, Option.join_some, Option.join_none, Option.map_some, List.all_cons, List.all_nil, Value.oneCell', reduceIte, reduceCtorEq, Nat.reduceEqDiff, Nat.reduceAdd, Nat.reduceMul, Nat.reduceLT, Nat.reduceBEq, Nat.reduceLeDiff, Nat.reduceSub, List.size_toArray]
      refine ITri.seq ?_
      refine ITri.reg pokT ?_; simp -implicitDefEqProofs (disch := first | decide | exact of_eq_true (eq_true rfl) | omega | assumption) only [ ↓vcD, vcE, evs, evP, evB, intsOf, fillC, Value.cells, pt, List.append_nil, List.nil_append, List.cons_append, List.length_cons, List.length_nil, List.filter_nil, List.map_nil, ↓List.getElem?_cons_zero, ↓List.getElem?_cons_succ, List.getElem?_cons_zero, List.getElem?_cons_succ, List.set_cons_zero, List.set_cons_succ, Option.join_some, Option.join_none, Option.map_some, List.all_cons, List.all_nil, Value.oneCell', reduceIte, reduceCtorEq, Nat.reduceEqDiff, Nat.reduceAdd, Nat.reduceMul, Nat.reduceLT, Nat.reduceBEq, Nat.reduceLeDiff, Nat.reduceSub, List.size_toArray]
      refine ⟨_, _, startN_f (n := n) (xs := xs) _ _ (sees0 rfl (of_decide_eq_true rfl)) (Rd.hq rfl rfl), ?_⟩
      try simp -implicitDefEqProofs (disch := first | decide | exact of_eq_true (eq_true rfl) | omega | assumption) only [ ↓vcD, vcE, evs, evP, evB, intsOf, fillC, Value.cells, pt, List.append_nil, List.nil_append, List.cons_append, List.length_cons, List.length_nil, List.filter_nil, List.map_nil, ↓List.getElem?_cons_zero, ↓List.getElem?_cons_succ, List.getElem?_cons_zero, List.getElem?_cons_succ, List.set_cons_zero, List.set_cons_succ, Option.join_some, Option.join_none, Option.map_some, List.all_cons, List.all_nil, Value.oneCell', reduceIte, reduceCtorEq, Nat.reduceEqDiff, Nat.reduceAdd, Nat.reduceMul, Nat.reduceLT, Nat.reduceBEq, Nat.reduceLeDiff, Nat.reduceSub, List.size_toArray]
      refine ITri.seq ?_
      refine ITri.reg pokT ?_; simp -implicitDefEqProofs (disch := first | decide | exact of_eq_true (eq_true rfl) | omega | assumption) only [ ↓vcD, vcE, evs, evP, evB, intsOf, fillC, Value.cells, pt, List.append_nil, List.nil_append, List.cons_append, List.length_cons, List.length_nil, List.filter_nil, List.map_nil, ↓List.getElem?_cons_zero, ↓List.getElem?_cons_succ, List.getElem?_cons_zero, List.getElem?_cons_succ, List.set_cons_zero, List.set_cons_succ, Option.join_some, Option.join_none, Option.map_some, List.all_cons, List.all_nil, Value.oneCell', reduceIte, reduceCtorEq, Nat.reduceEqDiff, Nat.reduceAdd, Nat.reduceMul, Nat.reduceLT, Nat.reduceBEq, Nat.reduceLeDiff, Nat.reduceSub, List.size_toArray]
      refine ⟨_, _, rStartN_f (n := n) (xs := xs) _ _ (sees0 rfl (of_decide_eq_true rfl)) (Rd.hq rfl rfl), ?_⟩
      try simp -implicitDefEqProofs (disch := first | decide | exact of_eq_true (eq_true rfl) | omega | assumption) only [ ↓vcD, vcE, evs, evP, evB, intsOf, fillC, Value.cells, pt, List.append_nil, List.nil_append, List.cons_append, List.length_cons, List.length_nil, List.filter_nil, List.map_nil, ↓List.getElem?_cons_zero, ↓List.getElem?_cons_succ, List.getElem?_cons_zero, List.getElem?_cons_succ, List.set_cons_zero, List.set_cons_succ, Option.join_some, Option.join_none, Option.map_some, List.all_cons, List.all_nil, Value.oneCell', reduceIte, reduceCtorEq, Nat.reduceEqDiff, Nat.reduceAdd, Nat.reduceMul, Nat.reduceLT, Nat.reduceBEq, Nat.reduceLeDiff, Nat.reduceSub, List.size_toArray]
      refine ITri.seq ?_
      refine ITri.seq ?_
      refine ITri.reg pokT ?_; simp -implicitDefEqProofs (disch := first | decide | exact of_eq_true (eq_true rfl) | omega | assumption) only [ ↓vcD, vcE, evs, evP, evB, intsOf, fillC, Value.cells, pt, List.append_nil, List.nil_append, List.cons_append, List.length_cons, List.length_nil, List.filter_nil, List.map_nil, ↓List.getElem?_cons_zero, ↓List.getElem?_cons_succ, List.getElem?_cons_zero, List.getElem?_cons_succ, List.set_cons_zero, List.set_cons_succ, Option.join_some, Option.join_none, Option.map_some, List.all_cons, List.all_nil, Value.oneCell', reduceIte, reduceCtorEq, Nat.reduceEqDiff, Nat.reduceAdd, Nat.reduceMul, Nat.reduceLT, Nat.reduceBEq, Nat.reduceLeDiff, Nat.reduceSub, List.size_toArray]
      refine ITri.block ?_
      refine ITri.loop (fun p : Nat × List Int => [(6, pt 4), (13, .slice (some ⟨6, 0, none⟩) n openB), (14, one), (15, pt 7), (16, one), (17, .int .i64 p.1)]) (fun _ => []) (fun p => Hp 2 [none, some (.cells ⟨rows eN xs, 0, false⟩), some (.cells ⟨[.bool true, s0N, s0N, s0N, .int .i64 0, s0N, s0N, s0N], 1, false⟩), some (.cells ⟨[.int .u8 k, .int .i64 a, .int .i64 b, .slice (some ⟨1, 0, none⟩) n c], 1, false⟩), some (.cells ⟨[.bool false, s0N, s0N, s0N, .int .i64 0, s0N, s0N, s0N], 1, false⟩), some (.cells ⟨[], 1, false⟩), some (.cells ⟨rows eN p.2, 1, true⟩), some (.cells ⟨[.bool true, s0N, s0N, s0N, .int .i64 0, s0N, s0N, s0N], 1, false⟩)]) (fun p => p.1 ≤ n ∧ p.2.length = n) (fun p => n - p.1) (0, xs) ⟨Nat.zero_le _, hx⟩ (Wk.sub ⟨rfl, rfl, rfl, rfl, rfl, rfl, trivial⟩) fun p hp => ?_
      obtain ⟨j, zs⟩ := p
      obtain ⟨hp1, hp2⟩ := hp
      simp only at hp1 hp2
      refine ITri.seq ?_
      refine ITri.seq ?_
      refine ITri.reg pokT ?_; simp -implicitDefEqProofs (disch := first | decide | exact of_eq_true (eq_true rfl) | omega | assumption) only [ ↓vcD, vcE, evs, evP, evB, intsOf, fillC, Value.cells, pt, List.append_nil, List.nil_append, List.cons_append, List.length_cons, List.length_nil, List.filter_nil, List.map_nil, ↓List.getElem?_cons_zero, ↓List.getElem?_cons_succ, List.getElem?_cons_zero, List.getElem?_cons_succ, List.set_cons_zero, List.set_cons_succ, Option.join_some, Option.join_none, Option.map_some, List.all_cons, List.all_nil, Value.oneCell', reduceIte, reduceCtorEq, Nat.reduceEqDiff, Nat.reduceAdd, Nat.reduceMul, Nat.reduceLT, Nat.reduceBEq, Nat.reduceLeDiff, Nat.reduceSub, List.size_toArray]
      refine ITri.condD (by rfl) (fun h3 => ?_) (fun h3 => ?_)
      · have hj : j < zs.length := by omega
        have hlz : (rows eN zs).length = n := by rw [rows_len, hp2, Nat.mul_one]
        have hst : (rows eN zs).set j (.int .i64 0) = rows eN (zs.set j 0) := by
          have := rows_set (f := eN) (j := 0) (x' := 0) (v := .int .i64 0) (get_nth hj) (by decide) rfl
          rwa [Nat.mul_one, Nat.add_zero] at this
        have hwr : writeAt (rows eN zs) j [.int .i64 0] = rows eN (zs.set j 0) := by
          rw [← hst]
          exact writeAt_1 _ _ _ (by omega)
        refine ITri.skip ?_; simp only [SeqQ_normal, BlkQ_normal]
        refine ITri.seq ?_
        refine ITri.block ?_
        refine ITri.reg pokT ?_; simp -implicitDefEqProofs (disch := first | decide | exact of_eq_true (eq_true rfl) | omega | assumption) only [hwr, hlz,  ↓vcD, vcE, evs, evP, evB, intsOf, fillC, Value.cells, pt, List.append_nil, List.nil_append, List.cons_append, List.length_cons, List.length_nil, List.filter_nil, List.map_nil, ↓List.getElem?_cons_zero, ↓List.getElem?_cons_succ, List.getElem?_cons_zero, List.getElem?_cons_succ, List.set_cons_zero, List.set_cons_succ, Option.join_some, Option.join_none, Option.map_some, List.all_cons, List.all_nil, Value.oneCell', reduceIte, reduceCtorEq, Nat.reduceEqDiff, Nat.reduceAdd, Nat.reduceMul, Nat.reduceLT, Nat.reduceBEq, Nat.reduceLeDiff, Nat.reduceSub, List.size_toArray]
        refine ITri.reg pokT ?_; simp -implicitDefEqProofs (disch := first | decide | exact of_eq_true (eq_true rfl) | omega | assumption) only [ ↓vcD, vcE, evs, evP, evB, intsOf, fillC, Value.cells, pt, List.append_nil, List.nil_append, List.cons_append, List.length_cons, List.length_nil, List.filter_nil, List.map_nil, ↓List.getElem?_cons_zero, ↓List.getElem?_cons_succ, List.getElem?_cons_zero, List.getElem?_cons_succ, List.set_cons_zero, List.set_cons_succ, Option.join_some, Option.join_none, Option.map_some, List.all_cons, List.all_nil, Value.oneCell', reduceIte, reduceCtorEq, Nat.reduceEqDiff, Nat.reduceAdd, Nat.reduceMul, Nat.reduceLT, Nat.reduceBEq, Nat.reduceLeDiff, Nat.reduceSub, List.size_toArray]
        refine LoopQ.next (j + 1, zs.set j 0) ?_ ?_ ?_
        · exact ⟨by show j + 1 ≤ n; omega, by show (zs.set j 0).length = n; rw [List.length_set]; exact hp2⟩
        · show n - (j + 1) < n - j
          omega
        · exact Wk.sub ⟨rfl, rfl, rfl, rfl, rfl, rfl, trivial⟩
      refine ITri.exit ?_; try simp -implicitDefEqProofs (disch := first | decide | exact of_eq_true (eq_true rfl) | omega | assumption) only [ ↓vcD, vcE, evs, evP, evB, intsOf, fillC, Value.cells, pt, List.append_nil, List.nil_append, List.cons_append, List.length_cons, List.length_nil, List.filter_nil, List.map_nil, ↓List.getElem?_cons_zero, ↓List.getElem?_cons_succ, List.getElem?_cons_zero, List.getElem?_cons_succ, List.set_cons_zero, List.set_cons_succ, Option.join_some, Option.join_none, Option.map_some, List.all_cons, List.all_nil, Value.oneCell', reduceIte, reduceCtorEq, Nat.reduceEqDiff, Nat.reduceAdd, Nat.reduceMul, Nat.reduceLT, Nat.reduceBEq, Nat.reduceLeDiff, Nat.reduceSub, List.size_toArray]
      refine ITri.seq ?_
      refine ITri.reg pokT ?_; simp -implicitDefEqProofs (disch := first | decide | exact of_eq_true (eq_true rfl) | omega | assumption) only [decide_true, eq_self, beq_self_eq_true,  ↓vcD, vcE, evs, evP, evB, intsOf, fillC, Value.cells, pt, List.append_nil, List.nil_append, List.cons_append, List.length_cons, List.length_nil, List.filter_nil, List.map_nil, ↓List.getElem?_cons_zero, ↓List.getElem?_cons_succ, List.getElem?_cons_zero, List.getElem?_cons_succ, List.set_cons_zero, List.set_cons_succ, Option.join_some, Option.join_none, Option.map_some, List.all_cons, List.all_nil, Value.oneCell', reduceIte, reduceCtorEq, Nat.reduceEqDiff, Nat.reduceAdd, Nat.reduceMul, Nat.reduceLT, Nat.reduceBEq, Nat.reduceLeDiff, Nat.reduceSub, List.size_toArray]
      refine ITri.ret ?_; exact EndR.plain (vs := [shN, .bool true]) (by simp) (resF_agg 8 rfl (by kernel_rfl) (by simp -implicitDefEqProofs (disch := first | decide | exact of_eq_true (eq_true rfl) | omega | assumption) only [↓vcD, vcE, evs, evP, evB, intsOf, fillC, Value.cells, pt, List.append_nil, List.nil_append, List.cons_append, List.length_cons, List.length_nil, List.filter_nil, List.map_nil, ↓List.getElem?_cons_zero, ↓List.getElem?_cons_succ, List.getElem?_cons_zero, List.getElem?_cons_succ, List.set_cons_zero, List.set_cons_succ, Option.join_some, Option.join_none, Option.map_some, List.all_cons, List.all_nil, Value.oneCell', reduceIte, reduceCtorEq, Nat.reduceEqDiff, Nat.reduceAdd, Nat.reduceMul, Nat.reduceLT, Nat.reduceBEq, Nat.reduceLeDiff, Nat.reduceSub, List.size_toArray]) (resF_tmp rfl resF_nil)) (by rfl) (by rfl)
  refine ITri.seq ?_
  refine ITri.reg pokT ?_; simp -implicitDefEqProofs (disch := first | decide | exact of_eq_true (eq_true rfl) | omega | assumption) only [ ↓vcD, vcE, evs, evP, evB, intsOf, fillC, Value.cells, pt, List.append_nil, List.nil_append, List.cons_append, List.length_cons, List.length_nil, List.filter_nil, List.map_nil, ↓List.getElem?_cons_zero, ↓List.getElem?_cons_succ, List.getElem?_cons_zero, List.getElem?_cons_succ, List.set_cons_zero, List.set_cons_succ, Option.join_some, Option.join_none, Option.map_some, List.all_cons, List.all_nil, Value.oneCell', reduceIte, reduceCtorEq, Nat.reduceEqDiff, Nat.reduceAdd, Nat.reduceMul, Nat.reduceLT, Nat.reduceBEq, Nat.reduceLeDiff, Nat.reduceSub, List.size_toArray]
  refine ITri.condD (by rfl) (fun h1 => ?_) (fun h1 => ?_)
  · refine ITri.seq ?_
    refine ITri.reg pokT ?_; simp -implicitDefEqProofs (disch := first | decide | exact of_eq_true (eq_true rfl) | omega | assumption) only [ ↓vcD, vcE, evs, evP, evB, intsOf, fillC, Value.cells, pt, List.append_nil, List.nil_append, List.cons_append, List.length_cons, List.length_nil, List.filter_nil, List.map_nil, ↓List.getElem?_cons_zero, ↓List.getElem?_cons_succ, List.getElem?_cons_zero, List.getElem?_cons_succ, List.set_cons_zero, List.set_cons_succ, Option.join_some, Option.join_none, Option.map_some, List.all_cons, List.all_nil, Value.oneCell', reduceIte, reduceCtorEq, Nat.reduceEqDiff, Nat.reduceAdd, Nat.reduceMul, Nat.reduceLT, Nat.reduceBEq, Nat.reduceLeDiff, Nat.reduceSub, List.size_toArray]
    refine ⟨_, _, tickN_f _ (sees0 rfl (of_decide_eq_true rfl)), ?_⟩
    try simp -implicitDefEqProofs (disch := first | decide | exact of_eq_true (eq_true rfl) | omega | assumption) only [ ↓vcD, vcE, evs, evP, evB, intsOf, fillC, Value.cells, pt, List.append_nil, List.nil_append, List.cons_append, List.length_cons, List.length_nil, List.filter_nil, List.map_nil, ↓List.getElem?_cons_zero, ↓List.getElem?_cons_succ, List.getElem?_cons_zero, List.getElem?_cons_succ, List.set_cons_zero, List.set_cons_succ, Option.join_some, Option.join_none, Option.map_some, List.all_cons, List.all_nil, Value.oneCell', reduceIte, reduceCtorEq, Nat.reduceEqDiff, Nat.reduceAdd, Nat.reduceMul, Nat.reduceLT, Nat.reduceBEq, Nat.reduceLeDiff, Nat.reduceSub, List.size_toArray]
    refine ITri.seq ?_
    refine ITri.reg pokT ?_; simp -implicitDefEqProofs (disch := first | decide | exact of_eq_true (eq_true rfl) | omega | assumption) only [ ↓vcD, vcE, evs, evP, evB, intsOf, fillC, Value.cells, pt, List.append_nil, List.nil_append, List.cons_append, List.length_cons, List.length_nil, List.filter_nil, List.map_nil, ↓List.getElem?_cons_zero, ↓List.getElem?_cons_succ, List.getElem?_cons_zero, List.getElem?_cons_succ, List.set_cons_zero, List.set_cons_succ, Option.join_some, Option.join_none, Option.map_some, List.all_cons, List.all_nil, Value.oneCell', reduceIte, reduceCtorEq, Nat.reduceEqDiff, Nat.reduceAdd, Nat.reduceMul, Nat.reduceLT, Nat.reduceBEq, Nat.reduceLeDiff, Nat.reduceSub, List.size_toArray]
    refine ⟨_, _, rTickN_f _ (sees0 rfl (of_decide_eq_true rfl)), ?_⟩
    try simp -implicitDefEqProofs (disch := first | decide | exact of_eq_true (eq_true rfl) | omega | assumption) only [ ↓vcD, vcE, evs, evP, evB, intsOf, fillC, Value.cells, pt, List.append_nil, List.nil_append, List.cons_append, List.length_cons, List.length_nil, List.filter_nil, List.map_nil, ↓List.getElem?_cons_zero, ↓List.getElem?_cons_succ, List.getElem?_cons_zero, List.getElem?_cons_succ, List.set_cons_zero, List.set_cons_succ, Option.join_some, Option.join_none, Option.map_some, List.all_cons, List.all_nil, Value.oneCell', reduceIte, reduceCtorEq, Nat.reduceEqDiff, Nat.reduceAdd, Nat.reduceMul, Nat.reduceLT, Nat.reduceBEq, Nat.reduceLeDiff, Nat.reduceSub, List.size_toArray]
    refine ITri.seq ?_
    refine ITri.reg pokT ?_; simp -implicitDefEqProofs (disch := first | decide | exact of_eq_true (eq_true rfl) | omega | assumption) only [decide_true, eq_self, beq_self_eq_true,  ↓vcD, vcE, evs, evP, evB, intsOf, fillC, Value.cells, pt, List.append_nil, List.nil_append, List.cons_append, List.length_cons, List.length_nil, List.filter_nil, List.map_nil, ↓List.getElem?_cons_zero, ↓List.getElem?_cons_succ, List.getElem?_cons_zero, List.getElem?_cons_succ, List.set_cons_zero, List.set_cons_succ, Option.join_some, Option.join_none, Option.map_some, List.all_cons, List.all_nil, Value.oneCell', reduceIte, reduceCtorEq, Nat.reduceEqDiff, Nat.reduceAdd, Nat.reduceMul, Nat.reduceLT, Nat.reduceBEq, Nat.reduceLeDiff, Nat.reduceSub, List.size_toArray]
    refine ITri.ret ?_; exact EndR.plain (vs := [shN, .bool true]) (by simp) (resF_agg 8 rfl (by kernel_rfl) (by simp -implicitDefEqProofs (disch := first | decide | exact of_eq_true (eq_true rfl) | omega | assumption) only [↓vcD, vcE, evs, evP, evB, intsOf, fillC, Value.cells, pt, List.append_nil, List.nil_append, List.cons_append, List.length_cons, List.length_nil, List.filter_nil, List.map_nil, ↓List.getElem?_cons_zero, ↓List.getElem?_cons_succ, List.getElem?_cons_zero, List.getElem?_cons_succ, List.set_cons_zero, List.set_cons_succ, Option.join_some, Option.join_none, Option.map_some, List.all_cons, List.all_nil, Value.oneCell', reduceIte, reduceCtorEq, Nat.reduceEqDiff, Nat.reduceAdd, Nat.reduceMul, Nat.reduceLT, Nat.reduceBEq, Nat.reduceLeDiff, Nat.reduceSub, List.size_toArray]) (resF_tmp rfl resF_nil)) (by rfl) (by rfl)
  refine ITri.seq ?_
  refine ITri.reg pokT ?_; simp -implicitDefEqProofs (disch := first | decide | exact of_eq_true (eq_true rfl) | omega | assumption) only [ ↓vcD, vcE, evs, evP, evB, intsOf, fillC, Value.cells, pt, List.append_nil, List.nil_append, List.cons_append, List.length_cons, List.length_nil, List.filter_nil, List.map_nil, ↓List.getElem?_cons_zero, ↓List.getElem?_cons_succ, List.getElem?_cons_zero, List.getElem?_cons_succ, List.set_cons_zero, List.set_cons_succ, Option.join_some, Option.join_none, Option.map_some, List.all_cons, List.all_nil, Value.oneCell', reduceIte, reduceCtorEq, Nat.reduceEqDiff, Nat.reduceAdd, Nat.reduceMul, Nat.reduceLT, Nat.reduceBEq, Nat.reduceLeDiff, Nat.reduceSub, List.size_toArray]
  refine ITri.condD (by rfl) (fun h1 => ?_) (fun h1 => ?_)
  · refine ITri.seq ?_
    refine ITri.reg pokT ?_; simp -implicitDefEqProofs (disch := first | decide | exact of_eq_true (eq_true rfl) | omega | assumption) only [ ↓vcD, vcE, evs, evP, evB, intsOf, fillC, Value.cells, pt, List.append_nil, List.nil_append, List.cons_append, List.length_cons, List.length_nil, List.filter_nil, List.map_nil, ↓List.getElem?_cons_zero, ↓List.getElem?_cons_succ, List.getElem?_cons_zero, List.getElem?_cons_succ, List.set_cons_zero, List.set_cons_succ, Option.join_some, Option.join_none, Option.map_some, List.all_cons, List.all_nil, Value.oneCell', reduceIte, reduceCtorEq, Nat.reduceEqDiff, Nat.reduceAdd, Nat.reduceMul, Nat.reduceLT, Nat.reduceBEq, Nat.reduceLeDiff, Nat.reduceSub, List.size_toArray]
    refine ⟨_, _, abortN_f _ (sees0 rfl (of_decide_eq_true rfl)), ?_⟩
    try simp -implicitDefEqProofs (disch := first | decide | exact of_eq_true (eq_true rfl) | omega | assumption) only [ ↓vcD, vcE, evs, evP, evB, intsOf, fillC, Value.cells, pt, List.append_nil, List.nil_append, List.cons_append, List.length_cons, List.length_nil, List.filter_nil, List.map_nil, ↓List.getElem?_cons_zero, ↓List.getElem?_cons_succ, List.getElem?_cons_zero, List.getElem?_cons_succ, List.set_cons_zero, List.set_cons_succ, Option.join_some, Option.join_none, Option.map_some, List.all_cons, List.all_nil, Value.oneCell', reduceIte, reduceCtorEq, Nat.reduceEqDiff, Nat.reduceAdd, Nat.reduceMul, Nat.reduceLT, Nat.reduceBEq, Nat.reduceLeDiff, Nat.reduceSub, List.size_toArray]
    refine ITri.seq ?_
    refine ITri.reg pokT ?_; simp -implicitDefEqProofs (disch := first | decide | exact of_eq_true (eq_true rfl) | omega | assumption) only [ ↓vcD, vcE, evs, evP, evB, intsOf, fillC, Value.cells, pt, List.append_nil, List.nil_append, List.cons_append, List.length_cons, List.length_nil, List.filter_nil, List.map_nil, ↓List.getElem?_cons_zero, ↓List.getElem?_cons_succ, List.getElem?_cons_zero, List.getElem?_cons_succ, List.set_cons_zero, List.set_cons_succ, Option.join_some, Option.join_none, Option.map_some, List.all_cons, List.all_nil, Value.oneCell', reduceIte, reduceCtorEq, Nat.reduceEqDiff, Nat.reduceAdd, Nat.reduceMul, Nat.reduceLT, Nat.reduceBEq, Nat.reduceLeDiff, Nat.reduceSub, List.size_toArray]
    refine ⟨_, _, rAbortN_f _ (sees0 rfl (of_decide_eq_true rfl)), ?_⟩
    try simp -implicitDefEqProofs (disch := first | decide | exact of_eq_true (eq_true rfl) | omega | assumption) only [ ↓vcD, vcE, evs, evP, evB, intsOf, fillC, Value.cells, pt, List.append_nil, List.nil_append, List.cons_append, List.length_cons, List.length_nil, List.filter_nil, List.map_nil, ↓List.getElem?_cons_zero, ↓List.getElem?_cons_succ, List.getElem?_cons_zero, List.getElem?_cons_succ, List.set_cons_zero, List.set_cons_succ, Option.join_some, Option.join_none, Option.map_some, List.all_cons, List.all_nil, Value.oneCell', reduceIte, reduceCtorEq, Nat.reduceEqDiff, Nat.reduceAdd, Nat.reduceMul, Nat.reduceLT, Nat.reduceBEq, Nat.reduceLeDiff, Nat.reduceSub, List.size_toArray]
    refine ITri.seq ?_
    refine ITri.reg pokT ?_; simp -implicitDefEqProofs (disch := first | decide | exact of_eq_true (eq_true rfl) | omega | assumption) only [decide_true, eq_self, beq_self_eq_true,  ↓vcD, vcE, evs, evP, evB, intsOf, fillC, Value.cells, pt, List.append_nil, List.nil_append, List.cons_append, List.length_cons, List.length_nil, List.filter_nil, List.map_nil, ↓List.getElem?_cons_zero, ↓List.getElem?_cons_succ, List.getElem?_cons_zero, List.getElem?_cons_succ, List.set_cons_zero, List.set_cons_succ, Option.join_some, Option.join_none, Option.map_some, List.all_cons, List.all_nil, Value.oneCell', reduceIte, reduceCtorEq, Nat.reduceEqDiff, Nat.reduceAdd, Nat.reduceMul, Nat.reduceLT, Nat.reduceBEq, Nat.reduceLeDiff, Nat.reduceSub, List.size_toArray]
    refine ITri.ret ?_; exact EndR.plain (vs := [shN, .bool true]) (by simp) (resF_agg 8 rfl (by kernel_rfl) (by simp -implicitDefEqProofs (disch := first | decide | exact of_eq_true (eq_true rfl) | omega | assumption) only [↓vcD, vcE, evs, evP, evB, intsOf, fillC, Value.cells, pt, List.append_nil, List.nil_append, List.cons_append, List.length_cons, List.length_nil, List.filter_nil, List.map_nil, ↓List.getElem?_cons_zero, ↓List.getElem?_cons_succ, List.getElem?_cons_zero, List.getElem?_cons_succ, List.set_cons_zero, List.set_cons_succ, Option.join_some, Option.join_none, Option.map_some, List.all_cons, List.all_nil, Value.oneCell', reduceIte, reduceCtorEq, Nat.reduceEqDiff, Nat.reduceAdd, Nat.reduceMul, Nat.reduceLT, Nat.reduceBEq, Nat.reduceLeDiff, Nat.reduceSub, List.size_toArray]) (resF_tmp rfl resF_nil)) (by rfl) (by rfl)
  refine ITri.seq ?_
  refine ITri.reg pokT ?_; simp -implicitDefEqProofs (disch := first | decide | exact of_eq_true (eq_true rfl) | omega | assumption) only [ ↓vcD, vcE, evs, evP, evB, intsOf, fillC, Value.cells, pt, List.append_nil, List.nil_append, List.cons_append, List.length_cons, List.length_nil, List.filter_nil, List.map_nil, ↓List.getElem?_cons_zero, ↓List.getElem?_cons_succ, List.getElem?_cons_zero, List.getElem?_cons_succ, List.set_cons_zero, List.set_cons_succ, Option.join_some, Option.join_none, Option.map_some, List.all_cons, List.all_nil, Value.oneCell', reduceIte, reduceCtorEq, Nat.reduceEqDiff, Nat.reduceAdd, Nat.reduceMul, Nat.reduceLT, Nat.reduceBEq, Nat.reduceLeDiff, Nat.reduceSub, List.size_toArray]
  refine ITri.condD (by rfl) (fun h1 => ?_) (fun h1 => ?_)
  · refine ITri.seq ?_
    refine ITri.reg pokT ?_; simp -implicitDefEqProofs (disch := first | decide | exact of_eq_true (eq_true rfl) | omega | assumption) only [ ↓vcD, vcE, evs, evP, evB, intsOf, fillC, Value.cells, pt, List.append_nil, List.nil_append, List.cons_append, List.length_cons, List.length_nil, List.filter_nil, List.map_nil, ↓List.getElem?_cons_zero, ↓List.getElem?_cons_succ, List.getElem?_cons_zero, List.getElem?_cons_succ, List.set_cons_zero, List.set_cons_succ, Option.join_some, Option.join_none, Option.map_some, List.all_cons, List.all_nil, Value.oneCell', reduceIte, reduceCtorEq, Nat.reduceEqDiff, Nat.reduceAdd, Nat.reduceMul, Nat.reduceLT, Nat.reduceBEq, Nat.reduceLeDiff, Nat.reduceSub, List.size_toArray]
    refine ⟨_, _, measN_f _ _ (sees0 rfl (of_decide_eq_true rfl)), ?_⟩
    try simp -implicitDefEqProofs (disch := first | decide | exact of_eq_true (eq_true rfl) | omega | assumption) only [ ↓vcD, vcE, evs, evP, evB, intsOf, fillC, Value.cells, pt, List.append_nil, List.nil_append, List.cons_append, List.length_cons, List.length_nil, List.filter_nil, List.map_nil, ↓List.getElem?_cons_zero, ↓List.getElem?_cons_succ, List.getElem?_cons_zero, List.getElem?_cons_succ, List.set_cons_zero, List.set_cons_succ, Option.join_some, Option.join_none, Option.map_some, List.all_cons, List.all_nil, Value.oneCell', reduceIte, reduceCtorEq, Nat.reduceEqDiff, Nat.reduceAdd, Nat.reduceMul, Nat.reduceLT, Nat.reduceBEq, Nat.reduceLeDiff, Nat.reduceSub, List.size_toArray]
    refine ITri.seq ?_
    refine ITri.reg pokT ?_; simp -implicitDefEqProofs (disch := first | decide | exact of_eq_true (eq_true rfl) | omega | assumption) only [ ↓vcD, vcE, evs, evP, evB, intsOf, fillC, Value.cells, pt, List.append_nil, List.nil_append, List.cons_append, List.length_cons, List.length_nil, List.filter_nil, List.map_nil, ↓List.getElem?_cons_zero, ↓List.getElem?_cons_succ, List.getElem?_cons_zero, List.getElem?_cons_succ, List.set_cons_zero, List.set_cons_succ, Option.join_some, Option.join_none, Option.map_some, List.all_cons, List.all_nil, Value.oneCell', reduceIte, reduceCtorEq, Nat.reduceEqDiff, Nat.reduceAdd, Nat.reduceMul, Nat.reduceLT, Nat.reduceBEq, Nat.reduceLeDiff, Nat.reduceSub, List.size_toArray]
    refine ⟨_, _, rMeasN_f _ _ (sees0 rfl (of_decide_eq_true rfl)), ?_⟩
    try simp -implicitDefEqProofs (disch := first | decide | exact of_eq_true (eq_true rfl) | omega | assumption) only [ ↓vcD, vcE, evs, evP, evB, intsOf, fillC, Value.cells, pt, List.append_nil, List.nil_append, List.cons_append, List.length_cons, List.length_nil, List.filter_nil, List.map_nil, ↓List.getElem?_cons_zero, ↓List.getElem?_cons_succ, List.getElem?_cons_zero, List.getElem?_cons_succ, List.set_cons_zero, List.set_cons_succ, Option.join_some, Option.join_none, Option.map_some, List.all_cons, List.all_nil, Value.oneCell', reduceIte, reduceCtorEq, Nat.reduceEqDiff, Nat.reduceAdd, Nat.reduceMul, Nat.reduceLT, Nat.reduceBEq, Nat.reduceLeDiff, Nat.reduceSub, List.size_toArray]
    refine ITri.seq ?_
    refine ITri.reg pokT ?_; simp -implicitDefEqProofs (disch := first | decide | exact of_eq_true (eq_true rfl) | omega | assumption) only [decide_true, eq_self, beq_self_eq_true,  ↓vcD, vcE, evs, evP, evB, intsOf, fillC, Value.cells, pt, List.append_nil, List.nil_append, List.cons_append, List.length_cons, List.length_nil, List.filter_nil, List.map_nil, ↓List.getElem?_cons_zero, ↓List.getElem?_cons_succ, List.getElem?_cons_zero, List.getElem?_cons_succ, List.set_cons_zero, List.set_cons_succ, Option.join_some, Option.join_none, Option.map_some, List.all_cons, List.all_nil, Value.oneCell', reduceIte, reduceCtorEq, Nat.reduceEqDiff, Nat.reduceAdd, Nat.reduceMul, Nat.reduceLT, Nat.reduceBEq, Nat.reduceLeDiff, Nat.reduceSub, List.size_toArray]
    refine ITri.ret ?_; exact EndR.plain (vs := [shN, .bool true]) (by simp) (resF_agg 8 rfl (by kernel_rfl) (by simp -implicitDefEqProofs (disch := first | decide | exact of_eq_true (eq_true rfl) | omega | assumption) only [↓vcD, vcE, evs, evP, evB, intsOf, fillC, Value.cells, pt, List.append_nil, List.nil_append, List.cons_append, List.length_cons, List.length_nil, List.filter_nil, List.map_nil, ↓List.getElem?_cons_zero, ↓List.getElem?_cons_succ, List.getElem?_cons_zero, List.getElem?_cons_succ, List.set_cons_zero, List.set_cons_succ, Option.join_some, Option.join_none, Option.map_some, List.all_cons, List.all_nil, Value.oneCell', reduceIte, reduceCtorEq, Nat.reduceEqDiff, Nat.reduceAdd, Nat.reduceMul, Nat.reduceLT, Nat.reduceBEq, Nat.reduceLeDiff, Nat.reduceSub, List.size_toArray]) (resF_tmp rfl resF_nil)) (by rfl) (by rfl)
  refine ITri.seq ?_
  refine ITri.reg pokT ?_; simp -implicitDefEqProofs (disch := first | decide | exact of_eq_true (eq_true rfl) | omega | assumption) only [ ↓vcD, vcE, evs, evP, evB, intsOf, fillC, Value.cells, pt, List.append_nil, List.nil_append, List.cons_append, List.length_cons, List.length_nil, List.filter_nil, List.map_nil, ↓List.getElem?_cons_zero, ↓List.getElem?_cons_succ, List.getElem?_cons_zero, List.getElem?_cons_succ, List.set_cons_zero, List.set_cons_succ, Option.join_some, Option.join_none, Option.map_some, List.all_cons, List.all_nil, Value.oneCell', reduceIte, reduceCtorEq, Nat.reduceEqDiff, Nat.reduceAdd, Nat.reduceMul, Nat.reduceLT, Nat.reduceBEq, Nat.reduceLeDiff, Nat.reduceSub, List.size_toArray]
  refine ITri.condD (by rfl) (fun h1 => ?_) (fun h1 => ?_)
  · refine ITri.seq ?_
    refine ITri.reg pokT ?_; simp -implicitDefEqProofs (disch := first | decide | exact of_eq_true (eq_true rfl) | omega | assumption) only [ ↓vcD, vcE, evs, evP, evB, intsOf, fillC, Value.cells, pt, List.append_nil, List.nil_append, List.cons_append, List.length_cons, List.length_nil, List.filter_nil, List.map_nil, ↓List.getElem?_cons_zero, ↓List.getElem?_cons_succ, List.getElem?_cons_zero, List.getElem?_cons_succ, List.set_cons_zero, List.set_cons_succ, Option.join_some, Option.join_none, Option.map_some, List.all_cons, List.all_nil, Value.oneCell', reduceIte, reduceCtorEq, Nat.reduceEqDiff, Nat.reduceAdd, Nat.reduceMul, Nat.reduceLT, Nat.reduceBEq, Nat.reduceLeDiff, Nat.reduceSub, List.size_toArray]
    refine ⟨_, _, holdN_f _ _ (sees0 rfl (of_decide_eq_true rfl)), ?_⟩
    try simp -implicitDefEqProofs (disch := first | decide | exact of_eq_true (eq_true rfl) | omega | assumption) only [ ↓vcD, vcE, evs, evP, evB, intsOf, fillC, Value.cells, pt, List.append_nil, List.nil_append, List.cons_append, List.length_cons, List.length_nil, List.filter_nil, List.map_nil, ↓List.getElem?_cons_zero, ↓List.getElem?_cons_succ, List.getElem?_cons_zero, List.getElem?_cons_succ, List.set_cons_zero, List.set_cons_succ, Option.join_some, Option.join_none, Option.map_some, List.all_cons, List.all_nil, Value.oneCell', reduceIte, reduceCtorEq, Nat.reduceEqDiff, Nat.reduceAdd, Nat.reduceMul, Nat.reduceLT, Nat.reduceBEq, Nat.reduceLeDiff, Nat.reduceSub, List.size_toArray]
    refine ITri.seq ?_
    refine ITri.reg pokT ?_; simp -implicitDefEqProofs (disch := first | decide | exact of_eq_true (eq_true rfl) | omega | assumption) only [ ↓vcD, vcE, evs, evP, evB, intsOf, fillC, Value.cells, pt, List.append_nil, List.nil_append, List.cons_append, List.length_cons, List.length_nil, List.filter_nil, List.map_nil, ↓List.getElem?_cons_zero, ↓List.getElem?_cons_succ, List.getElem?_cons_zero, List.getElem?_cons_succ, List.set_cons_zero, List.set_cons_succ, Option.join_some, Option.join_none, Option.map_some, List.all_cons, List.all_nil, Value.oneCell', reduceIte, reduceCtorEq, Nat.reduceEqDiff, Nat.reduceAdd, Nat.reduceMul, Nat.reduceLT, Nat.reduceBEq, Nat.reduceLeDiff, Nat.reduceSub, List.size_toArray]
    refine ⟨_, _, rHoldN_f _ _ (sees0 rfl (of_decide_eq_true rfl)), ?_⟩
    try simp -implicitDefEqProofs (disch := first | decide | exact of_eq_true (eq_true rfl) | omega | assumption) only [ ↓vcD, vcE, evs, evP, evB, intsOf, fillC, Value.cells, pt, List.append_nil, List.nil_append, List.cons_append, List.length_cons, List.length_nil, List.filter_nil, List.map_nil, ↓List.getElem?_cons_zero, ↓List.getElem?_cons_succ, List.getElem?_cons_zero, List.getElem?_cons_succ, List.set_cons_zero, List.set_cons_succ, Option.join_some, Option.join_none, Option.map_some, List.all_cons, List.all_nil, Value.oneCell', reduceIte, reduceCtorEq, Nat.reduceEqDiff, Nat.reduceAdd, Nat.reduceMul, Nat.reduceLT, Nat.reduceBEq, Nat.reduceLeDiff, Nat.reduceSub, List.size_toArray]
    refine ITri.seq ?_
    refine ITri.reg pokT ?_; simp -implicitDefEqProofs (disch := first | decide | exact of_eq_true (eq_true rfl) | omega | assumption) only [decide_true, eq_self, beq_self_eq_true,  ↓vcD, vcE, evs, evP, evB, intsOf, fillC, Value.cells, pt, List.append_nil, List.nil_append, List.cons_append, List.length_cons, List.length_nil, List.filter_nil, List.map_nil, ↓List.getElem?_cons_zero, ↓List.getElem?_cons_succ, List.getElem?_cons_zero, List.getElem?_cons_succ, List.set_cons_zero, List.set_cons_succ, Option.join_some, Option.join_none, Option.map_some, List.all_cons, List.all_nil, Value.oneCell', reduceIte, reduceCtorEq, Nat.reduceEqDiff, Nat.reduceAdd, Nat.reduceMul, Nat.reduceLT, Nat.reduceBEq, Nat.reduceLeDiff, Nat.reduceSub, List.size_toArray]
    refine ITri.ret ?_; exact EndR.plain (vs := [shN, .bool true]) (by simp) (resF_agg 8 rfl (by kernel_rfl) (by simp -implicitDefEqProofs (disch := first | decide | exact of_eq_true (eq_true rfl) | omega | assumption) only [↓vcD, vcE, evs, evP, evB, intsOf, fillC, Value.cells, pt, List.append_nil, List.nil_append, List.cons_append, List.length_cons, List.length_nil, List.filter_nil, List.map_nil, ↓List.getElem?_cons_zero, ↓List.getElem?_cons_succ, List.getElem?_cons_zero, List.getElem?_cons_succ, List.set_cons_zero, List.set_cons_succ, Option.join_some, Option.join_none, Option.map_some, List.all_cons, List.all_nil, Value.oneCell', reduceIte, reduceCtorEq, Nat.reduceEqDiff, Nat.reduceAdd, Nat.reduceMul, Nat.reduceLT, Nat.reduceBEq, Nat.reduceLeDiff, Nat.reduceSub, List.size_toArray]) (resF_tmp rfl resF_nil)) (by rfl) (by rfl)
  refine ITri.seq ?_
  refine ITri.reg pokT ?_; simp -implicitDefEqProofs (disch := first | decide | exact of_eq_true (eq_true rfl) | omega | assumption) only [ ↓vcD, vcE, evs, evP, evB, intsOf, fillC, Value.cells, pt, List.append_nil, List.nil_append, List.cons_append, List.length_cons, List.length_nil, List.filter_nil, List.map_nil, ↓List.getElem?_cons_zero, ↓List.getElem?_cons_succ, List.getElem?_cons_zero, List.getElem?_cons_succ, List.set_cons_zero, List.set_cons_succ, Option.join_some, Option.join_none, Option.map_some, List.all_cons, List.all_nil, Value.oneCell', reduceIte, reduceCtorEq, Nat.reduceEqDiff, Nat.reduceAdd, Nat.reduceMul, Nat.reduceLT, Nat.reduceBEq, Nat.reduceLeDiff, Nat.reduceSub, List.size_toArray]
  refine ITri.condD (by rfl) (fun h1 => ?_) (fun h1 => ?_)
  · refine ITri.seq ?_
    refine ITri.reg pokT ?_; simp -implicitDefEqProofs (disch := first | decide | exact of_eq_true (eq_true rfl) | omega | assumption) only [ ↓vcD, vcE, evs, evP, evB, intsOf, fillC, Value.cells, pt, List.append_nil, List.nil_append, List.cons_append, List.length_cons, List.length_nil, List.filter_nil, List.map_nil, ↓List.getElem?_cons_zero, ↓List.getElem?_cons_succ, List.getElem?_cons_zero, List.getElem?_cons_succ, List.set_cons_zero, List.set_cons_succ, Option.join_some, Option.join_none, Option.map_some, List.all_cons, List.all_nil, Value.oneCell', reduceIte, reduceCtorEq, Nat.reduceEqDiff, Nat.reduceAdd, Nat.reduceMul, Nat.reduceLT, Nat.reduceBEq, Nat.reduceLeDiff, Nat.reduceSub, List.size_toArray]
    refine ⟨_, _, signN_f _ _ (sees0 rfl (of_decide_eq_true rfl)), ?_⟩
    try simp -implicitDefEqProofs (disch := first | decide | exact of_eq_true (eq_true rfl) | omega | assumption) only [ ↓vcD, vcE, evs, evP, evB, intsOf, fillC, Value.cells, pt, List.append_nil, List.nil_append, List.cons_append, List.length_cons, List.length_nil, List.filter_nil, List.map_nil, ↓List.getElem?_cons_zero, ↓List.getElem?_cons_succ, List.getElem?_cons_zero, List.getElem?_cons_succ, List.set_cons_zero, List.set_cons_succ, Option.join_some, Option.join_none, Option.map_some, List.all_cons, List.all_nil, Value.oneCell', reduceIte, reduceCtorEq, Nat.reduceEqDiff, Nat.reduceAdd, Nat.reduceMul, Nat.reduceLT, Nat.reduceBEq, Nat.reduceLeDiff, Nat.reduceSub, List.size_toArray]
    refine ITri.seq ?_
    refine ITri.reg pokT ?_; simp -implicitDefEqProofs (disch := first | decide | exact of_eq_true (eq_true rfl) | omega | assumption) only [ ↓vcD, vcE, evs, evP, evB, intsOf, fillC, Value.cells, pt, List.append_nil, List.nil_append, List.cons_append, List.length_cons, List.length_nil, List.filter_nil, List.map_nil, ↓List.getElem?_cons_zero, ↓List.getElem?_cons_succ, List.getElem?_cons_zero, List.getElem?_cons_succ, List.set_cons_zero, List.set_cons_succ, Option.join_some, Option.join_none, Option.map_some, List.all_cons, List.all_nil, Value.oneCell', reduceIte, reduceCtorEq, Nat.reduceEqDiff, Nat.reduceAdd, Nat.reduceMul, Nat.reduceLT, Nat.reduceBEq, Nat.reduceLeDiff, Nat.reduceSub, List.size_toArray]
    refine ⟨_, _, rSignN_f _ _ (sees0 rfl (of_decide_eq_true rfl)), ?_⟩
    try simp -implicitDefEqProofs (disch := first | decide | exact of_eq_true (eq_true rfl) | omega | assumption) only [ ↓vcD, vcE, evs, evP, evB, intsOf, fillC, Value.cells, pt, List.append_nil, List.nil_append, List.cons_append, List.length_cons, List.length_nil, List.filter_nil, List.map_nil, ↓List.getElem?_cons_zero, ↓List.getElem?_cons_succ, List.getElem?_cons_zero, List.getElem?_cons_succ, List.set_cons_zero, List.set_cons_succ, Option.join_some, Option.join_none, Option.map_some, List.all_cons, List.all_nil, Value.oneCell', reduceIte, reduceCtorEq, Nat.reduceEqDiff, Nat.reduceAdd, Nat.reduceMul, Nat.reduceLT, Nat.reduceBEq, Nat.reduceLeDiff, Nat.reduceSub, List.size_toArray]
    refine ITri.seq ?_
    refine ITri.reg pokT ?_; simp -implicitDefEqProofs (disch := first | decide | exact of_eq_true (eq_true rfl) | omega | assumption) only [decide_true, eq_self, beq_self_eq_true,  ↓vcD, vcE, evs, evP, evB, intsOf, fillC, Value.cells, pt, List.append_nil, List.nil_append, List.cons_append, List.length_cons, List.length_nil, List.filter_nil, List.map_nil, ↓List.getElem?_cons_zero, ↓List.getElem?_cons_succ, List.getElem?_cons_zero, List.getElem?_cons_succ, List.set_cons_zero, List.set_cons_succ, Option.join_some, Option.join_none, Option.map_some, List.all_cons, List.all_nil, Value.oneCell', reduceIte, reduceCtorEq, Nat.reduceEqDiff, Nat.reduceAdd, Nat.reduceMul, Nat.reduceLT, Nat.reduceBEq, Nat.reduceLeDiff, Nat.reduceSub, List.size_toArray]
    refine ITri.ret ?_; exact EndR.plain (vs := [shN, .bool true]) (by simp) (resF_agg 8 rfl (by kernel_rfl) (by simp -implicitDefEqProofs (disch := first | decide | exact of_eq_true (eq_true rfl) | omega | assumption) only [↓vcD, vcE, evs, evP, evB, intsOf, fillC, Value.cells, pt, List.append_nil, List.nil_append, List.cons_append, List.length_cons, List.length_nil, List.filter_nil, List.map_nil, ↓List.getElem?_cons_zero, ↓List.getElem?_cons_succ, List.getElem?_cons_zero, List.getElem?_cons_succ, List.set_cons_zero, List.set_cons_succ, Option.join_some, Option.join_none, Option.map_some, List.all_cons, List.all_nil, Value.oneCell', reduceIte, reduceCtorEq, Nat.reduceEqDiff, Nat.reduceAdd, Nat.reduceMul, Nat.reduceLT, Nat.reduceBEq, Nat.reduceLeDiff, Nat.reduceSub, List.size_toArray]) (resF_tmp rfl resF_nil)) (by rfl) (by rfl)
  refine ITri.seq ?_
  refine ITri.reg pokT ?_; simp -implicitDefEqProofs (disch := first | decide | exact of_eq_true (eq_true rfl) | omega | assumption) only [ ↓vcD, vcE, evs, evP, evB, intsOf, fillC, Value.cells, pt, List.append_nil, List.nil_append, List.cons_append, List.length_cons, List.length_nil, List.filter_nil, List.map_nil, ↓List.getElem?_cons_zero, ↓List.getElem?_cons_succ, List.getElem?_cons_zero, List.getElem?_cons_succ, List.set_cons_zero, List.set_cons_succ, Option.join_some, Option.join_none, Option.map_some, List.all_cons, List.all_nil, Value.oneCell', reduceIte, reduceCtorEq, Nat.reduceEqDiff, Nat.reduceAdd, Nat.reduceMul, Nat.reduceLT, Nat.reduceBEq, Nat.reduceLeDiff, Nat.reduceSub, List.size_toArray]
  refine ITri.condD (by rfl) (fun h1 => ?_) (fun h1 => ?_)
  · refine ITri.seq ?_
    refine ITri.reg pokT ?_; simp -implicitDefEqProofs (disch := first | decide | exact of_eq_true (eq_true rfl) | omega | assumption) only [ ↓vcD, vcE, evs, evP, evB, intsOf, fillC, Value.cells, pt, List.append_nil, List.nil_append, List.cons_append, List.length_cons, List.length_nil, List.filter_nil, List.map_nil, ↓List.getElem?_cons_zero, ↓List.getElem?_cons_succ, List.getElem?_cons_zero, List.getElem?_cons_succ, List.set_cons_zero, List.set_cons_succ, Option.join_some, Option.join_none, Option.map_some, List.all_cons, List.all_nil, Value.oneCell', reduceIte, reduceCtorEq, Nat.reduceEqDiff, Nat.reduceAdd, Nat.reduceMul, Nat.reduceLT, Nat.reduceBEq, Nat.reduceLeDiff, Nat.reduceSub, List.size_toArray]
    refine ⟨_, _, signTN_f _ _ (sees0 rfl (of_decide_eq_true rfl)), ?_⟩
    try simp -implicitDefEqProofs (disch := first | decide | exact of_eq_true (eq_true rfl) | omega | assumption) only [ ↓vcD, vcE, evs, evP, evB, intsOf, fillC, Value.cells, pt, List.append_nil, List.nil_append, List.cons_append, List.length_cons, List.length_nil, List.filter_nil, List.map_nil, ↓List.getElem?_cons_zero, ↓List.getElem?_cons_succ, List.getElem?_cons_zero, List.getElem?_cons_succ, List.set_cons_zero, List.set_cons_succ, Option.join_some, Option.join_none, Option.map_some, List.all_cons, List.all_nil, Value.oneCell', reduceIte, reduceCtorEq, Nat.reduceEqDiff, Nat.reduceAdd, Nat.reduceMul, Nat.reduceLT, Nat.reduceBEq, Nat.reduceLeDiff, Nat.reduceSub, List.size_toArray]
    refine ITri.seq ?_
    refine ITri.reg pokT ?_; simp -implicitDefEqProofs (disch := first | decide | exact of_eq_true (eq_true rfl) | omega | assumption) only [ ↓vcD, vcE, evs, evP, evB, intsOf, fillC, Value.cells, pt, List.append_nil, List.nil_append, List.cons_append, List.length_cons, List.length_nil, List.filter_nil, List.map_nil, ↓List.getElem?_cons_zero, ↓List.getElem?_cons_succ, List.getElem?_cons_zero, List.getElem?_cons_succ, List.set_cons_zero, List.set_cons_succ, Option.join_some, Option.join_none, Option.map_some, List.all_cons, List.all_nil, Value.oneCell', reduceIte, reduceCtorEq, Nat.reduceEqDiff, Nat.reduceAdd, Nat.reduceMul, Nat.reduceLT, Nat.reduceBEq, Nat.reduceLeDiff, Nat.reduceSub, List.size_toArray]
    refine ⟨_, _, rSignTN_f _ _ (sees0 rfl (of_decide_eq_true rfl)), ?_⟩
    try simp -implicitDefEqProofs (disch := first | decide | exact of_eq_true (eq_true rfl) | omega | assumption) only [ ↓vcD, vcE, evs, evP, evB, intsOf, fillC, Value.cells, pt, List.append_nil, List.nil_append, List.cons_append, List.length_cons, List.length_nil, List.filter_nil, List.map_nil, ↓List.getElem?_cons_zero, ↓List.getElem?_cons_succ, List.getElem?_cons_zero, List.getElem?_cons_succ, List.set_cons_zero, List.set_cons_succ, Option.join_some, Option.join_none, Option.map_some, List.all_cons, List.all_nil, Value.oneCell', reduceIte, reduceCtorEq, Nat.reduceEqDiff, Nat.reduceAdd, Nat.reduceMul, Nat.reduceLT, Nat.reduceBEq, Nat.reduceLeDiff, Nat.reduceSub, List.size_toArray]
    refine ITri.seq ?_
    refine ITri.reg pokT ?_; simp -implicitDefEqProofs (disch := first | decide | exact of_eq_true (eq_true rfl) | omega | assumption) only [decide_true, eq_self, beq_self_eq_true,  ↓vcD, vcE, evs, evP, evB, intsOf, fillC, Value.cells, pt, List.append_nil, List.nil_append, List.cons_append, List.length_cons, List.length_nil, List.filter_nil, List.map_nil, ↓List.getElem?_cons_zero, ↓List.getElem?_cons_succ, List.getElem?_cons_zero, List.getElem?_cons_succ, List.set_cons_zero, List.set_cons_succ, Option.join_some, Option.join_none, Option.map_some, List.all_cons, List.all_nil, Value.oneCell', reduceIte, reduceCtorEq, Nat.reduceEqDiff, Nat.reduceAdd, Nat.reduceMul, Nat.reduceLT, Nat.reduceBEq, Nat.reduceLeDiff, Nat.reduceSub, List.size_toArray]
    refine ITri.ret ?_; exact EndR.plain (vs := [shN, .bool true]) (by simp) (resF_agg 8 rfl (by kernel_rfl) (by simp -implicitDefEqProofs (disch := first | decide | exact of_eq_true (eq_true rfl) | omega | assumption) only [↓vcD, vcE, evs, evP, evB, intsOf, fillC, Value.cells, pt, List.append_nil, List.nil_append, List.cons_append, List.length_cons, List.length_nil, List.filter_nil, List.map_nil, ↓List.getElem?_cons_zero, ↓List.getElem?_cons_succ, List.getElem?_cons_zero, List.getElem?_cons_succ, List.set_cons_zero, List.set_cons_succ, Option.join_some, Option.join_none, Option.map_some, List.all_cons, List.all_nil, Value.oneCell', reduceIte, reduceCtorEq, Nat.reduceEqDiff, Nat.reduceAdd, Nat.reduceMul, Nat.reduceLT, Nat.reduceBEq, Nat.reduceLeDiff, Nat.reduceSub, List.size_toArray]) (resF_tmp rfl resF_nil)) (by rfl) (by rfl)
  refine ITri.skip ?_; simp only [SeqQ_normal, BlkQ_normal]
  refine ITri.seq ?_
  refine ITri.reg pokT ?_; simp -implicitDefEqProofs (disch := first | decide | exact of_eq_true (eq_true rfl) | omega | assumption) only [ ↓vcD, vcE, evs, evP, evB, intsOf, fillC, Value.cells, pt, List.append_nil, List.nil_append, List.cons_append, List.length_cons, List.length_nil, List.filter_nil, List.map_nil, ↓List.getElem?_cons_zero, ↓List.getElem?_cons_succ, List.getElem?_cons_zero, List.getElem?_cons_succ, List.set_cons_zero, List.set_cons_succ, Option.join_some, Option.join_none, Option.map_some, List.all_cons, List.all_nil, Value.oneCell', reduceIte, reduceCtorEq, Nat.reduceEqDiff, Nat.reduceAdd, Nat.reduceMul, Nat.reduceLT, Nat.reduceBEq, Nat.reduceLeDiff, Nat.reduceSub, List.size_toArray]
  refine ⟨_, _, servN_f _ (sees0 rfl (of_decide_eq_true rfl)), ?_⟩
  try simp -implicitDefEqProofs (disch := first | decide | exact of_eq_true (eq_true rfl) | omega | assumption) only [ ↓vcD, vcE, evs, evP, evB, intsOf, fillC, Value.cells, pt, List.append_nil, List.nil_append, List.cons_append, List.length_cons, List.length_nil, List.filter_nil, List.map_nil, ↓List.getElem?_cons_zero, ↓List.getElem?_cons_succ, List.getElem?_cons_zero, List.getElem?_cons_succ, List.set_cons_zero, List.set_cons_succ, Option.join_some, Option.join_none, Option.map_some, List.all_cons, List.all_nil, Value.oneCell', reduceIte, reduceCtorEq, Nat.reduceEqDiff, Nat.reduceAdd, Nat.reduceMul, Nat.reduceLT, Nat.reduceBEq, Nat.reduceLeDiff, Nat.reduceSub, List.size_toArray]
  refine ITri.seq ?_
  refine ITri.reg pokT ?_; simp -implicitDefEqProofs (disch := first | decide | exact of_eq_true (eq_true rfl) | omega | assumption) only [ ↓vcD, vcE, evs, evP, evB, intsOf, fillC, Value.cells, pt, List.append_nil, List.nil_append, List.cons_append, List.length_cons, List.length_nil, List.filter_nil, List.map_nil, ↓List.getElem?_cons_zero, ↓List.getElem?_cons_succ, List.getElem?_cons_zero, List.getElem?_cons_succ, List.set_cons_zero, List.set_cons_succ, Option.join_some, Option.join_none, Option.map_some, List.all_cons, List.all_nil, Value.oneCell', reduceIte, reduceCtorEq, Nat.reduceEqDiff, Nat.reduceAdd, Nat.reduceMul, Nat.reduceLT, Nat.reduceBEq, Nat.reduceLeDiff, Nat.reduceSub, List.size_toArray]
  refine ⟨_, _, rServN_f _ (sees0 rfl (of_decide_eq_true rfl)), ?_⟩
  try simp -implicitDefEqProofs (disch := first | decide | exact of_eq_true (eq_true rfl) | omega | assumption) only [ ↓vcD, vcE, evs, evP, evB, intsOf, fillC, Value.cells, pt, List.append_nil, List.nil_append, List.cons_append, List.length_cons, List.length_nil, List.filter_nil, List.map_nil, ↓List.getElem?_cons_zero, ↓List.getElem?_cons_succ, List.getElem?_cons_zero, List.getElem?_cons_succ, List.set_cons_zero, List.set_cons_succ, Option.join_some, Option.join_none, Option.map_some, List.all_cons, List.all_nil, Value.oneCell', reduceIte, reduceCtorEq, Nat.reduceEqDiff, Nat.reduceAdd, Nat.reduceMul, Nat.reduceLT, Nat.reduceBEq, Nat.reduceLeDiff, Nat.reduceSub, List.size_toArray]
  refine ITri.seq ?_
  refine ITri.reg pokT ?_; simp -implicitDefEqProofs (disch := first | decide | exact of_eq_true (eq_true rfl) | omega | assumption) only [decide_true, eq_self, beq_self_eq_true,  ↓vcD, vcE, evs, evP, evB, intsOf, fillC, Value.cells, pt, List.append_nil, List.nil_append, List.cons_append, List.length_cons, List.length_nil, List.filter_nil, List.map_nil, ↓List.getElem?_cons_zero, ↓List.getElem?_cons_succ, List.getElem?_cons_zero, List.getElem?_cons_succ, List.set_cons_zero, List.set_cons_succ, Option.join_some, Option.join_none, Option.map_some, List.all_cons, List.all_nil, Value.oneCell', reduceIte, reduceCtorEq, Nat.reduceEqDiff, Nat.reduceAdd, Nat.reduceMul, Nat.reduceLT, Nat.reduceBEq, Nat.reduceLeDiff, Nat.reduceSub, List.size_toArray]
  refine ITri.ret ?_; exact EndR.plain (vs := [shN, .bool true]) (by simp) (resF_agg 8 rfl (by kernel_rfl) (by simp -implicitDefEqProofs (disch := first | decide | exact of_eq_true (eq_true rfl) | omega | assumption) only [↓vcD, vcE, evs, evP, evB, intsOf, fillC, Value.cells, pt, List.append_nil, List.nil_append, List.cons_append, List.length_cons, List.length_nil, List.filter_nil, List.map_nil, ↓List.getElem?_cons_zero, ↓List.getElem?_cons_succ, List.getElem?_cons_zero, List.getElem?_cons_succ, List.set_cons_zero, List.set_cons_succ, Option.join_some, Option.join_none, Option.map_some, List.all_cons, List.all_nil, Value.oneCell', reduceIte, reduceCtorEq, Nat.reduceEqDiff, Nat.reduceAdd, Nat.reduceMul, Nat.reduceLT, Nat.reduceBEq, Nat.reduceLeDiff, Nat.reduceSub, List.size_toArray]) (resF_tmp rfl resF_nil)) (by rfl) (by rfl)
theorem doneN_f {n : Nat} {xs : List Int} {s : Value} (k a b : Int) (hx : xs.length = n) (hb : n ≤ 1000000) (hk : 0 ≤ k ∧ k ≤ 255) {h : AH} (h0 : h.sees 0 = true) (r : Rd h s n (rows eN xs)) :
    Fc Try.prog 26 [pN, shN, .agg ⟨[.int .u8 k, .int .i64 a, .int .i64 b, s]⟩] h (.tuple #[shN, .bool true]) h :=
  Fc.lift1 (mk := fun ss => [pN, shN] ++ [.agg ⟨[.int .u8 k, .int .i64 a, .int .i64 b] ++ ss ++ []⟩]) (mkv := fun _ => .tuple #[shN, .bool true]) (os := []) (fun c => doneN_c n c k a b xs hx hb hk) (MkL.pre (MkL.agg1 (MkL.mid rfl rfl) rfl) rfl) (MkV.const rfl) (rows_no (f := eN) xs) (fun o ho => by cases ho) h0 r
theorem eq_lo : cellsEq [false, false, false, false, false] [.int .i64 0, .int .i64 0, .int .i64 0, .int .u8 0, .int .i64 0] [.int .i64 0, .int .i64 0, .int .i64 0, .int .u8 0, .int .i64 0] = some true := by simp [cellsEq, cellEq]
theorem nothing_c (n c : Nat) (k a b : Int) (xs : List Int) (hx : xs.length = n) (hk : 0 ≤ k ∧ k ≤ 255) :
    Fc Try.prog 9 [.agg #[.int .u8 k, .int .i64 a, .int .i64 b, .slice (some ⟨1, 0, none⟩) n c]] (Hp 2 [none, some (.cells ⟨rows eN xs, 0, false⟩)]) (.bool true) (Hp 2 [none, some (.cells ⟨rows eN xs, 0, false⟩)]) := by
  refine Fc.intro0 fn9 (by simp) rfl rfl ?_; simp only [argF]
  refine ITri.seq ?_
  refine ITri.reg pokT ?_; simp -implicitDefEqProofs (disch := first | decide | exact of_eq_true (eq_true rfl) | omega | assumption) only [ ↓vcD, vcE, evs, evP, evB, intsOf, fillC, Value.cells, pt, List.append_nil, List.nil_append, List.cons_append, List.length_cons, List.length_nil, List.filter_nil, List.map_nil, ↓List.getElem?_cons_zero, ↓List.getElem?_cons_succ, List.getElem?_cons_zero, List.getElem?_cons_succ, List.set_cons_zero, List.set_cons_succ, Option.join_some, Option.join_none, Option.map_some, List.all_cons, List.all_nil, Value.oneCell', reduceIte, reduceCtorEq, Nat.reduceEqDiff, Nat.reduceAdd, Nat.reduceMul, Nat.reduceLT, Nat.reduceBEq, Nat.reduceLeDiff, Nat.reduceSub, List.size_toArray]
  refine ITri.seq ?_
  refine ITri.seq ?_
  refine ITri.reg pokT ?_; simp -implicitDefEqProofs (disch := first | decide | exact of_eq_true (eq_true rfl) | omega | assumption) only [ ↓vcD, vcE, evs, evP, evB, intsOf, fillC, Value.cells, pt, List.append_nil, List.nil_append, List.cons_append, List.length_cons, List.length_nil, List.filter_nil, List.map_nil, ↓List.getElem?_cons_zero, ↓List.getElem?_cons_succ, List.getElem?_cons_zero, List.getElem?_cons_succ, List.set_cons_zero, List.set_cons_succ, Option.join_some, Option.join_none, Option.map_some, List.all_cons, List.all_nil, Value.oneCell', reduceIte, reduceCtorEq, Nat.reduceEqDiff, Nat.reduceAdd, Nat.reduceMul, Nat.reduceLT, Nat.reduceBEq, Nat.reduceLeDiff, Nat.reduceSub, List.size_toArray]
  refine ITri.condD (by rfl) (fun h1 => ?_) (fun h1 => ?_) -- %13
  · refine ITri.seq ?_
    refine ITri.reg pokT ?_; simp -implicitDefEqProofs (disch := first | decide | exact of_eq_true (eq_true rfl) | omega | assumption) only [ ↓vcD, vcE, evs, evP, evB, intsOf, fillC, Value.cells, pt, List.append_nil, List.nil_append, List.cons_append, List.length_cons, List.length_nil, List.filter_nil, List.map_nil, ↓List.getElem?_cons_zero, ↓List.getElem?_cons_succ, List.getElem?_cons_zero, List.getElem?_cons_succ, List.set_cons_zero, List.set_cons_succ, Option.join_some, Option.join_none, Option.map_some, List.all_cons, List.all_nil, Value.oneCell', reduceIte, reduceCtorEq, Nat.reduceEqDiff, Nat.reduceAdd, Nat.reduceMul, Nat.reduceLT, Nat.reduceBEq, Nat.reduceLeDiff, Nat.reduceSub, List.size_toArray]
    refine ⟨_, _, knownT, ?_⟩
    try simp -implicitDefEqProofs (disch := first | decide | exact of_eq_true (eq_true rfl) | omega | assumption) only [ ↓vcD, vcE, evs, evP, evB, intsOf, fillC, Value.cells, pt, List.append_nil, List.nil_append, List.cons_append, List.length_cons, List.length_nil, List.filter_nil, List.map_nil, ↓List.getElem?_cons_zero, ↓List.getElem?_cons_succ, List.getElem?_cons_zero, List.getElem?_cons_succ, List.set_cons_zero, List.set_cons_succ, Option.join_some, Option.join_none, Option.map_some, List.all_cons, List.all_nil, Value.oneCell', reduceIte, reduceCtorEq, Nat.reduceEqDiff, Nat.reduceAdd, Nat.reduceMul, Nat.reduceLT, Nat.reduceBEq, Nat.reduceLeDiff, Nat.reduceSub, List.size_toArray]
    refine ITri.ret ?_; exact EndR.plain (by simp) (by rfl) (by rfl) (by rfl)
  refine ITri.skip ?_; simp only [SeqQ_normal, BlkQ_normal]
  refine ITri.seq ?_
  refine ITri.reg pokT ?_; simp -implicitDefEqProofs (disch := first | decide | exact of_eq_true (eq_true rfl) | omega | assumption) only [ ↓vcD, vcE, evs, evP, evB, intsOf, fillC, Value.cells, pt, List.append_nil, List.nil_append, List.cons_append, List.length_cons, List.length_nil, List.filter_nil, List.map_nil, ↓List.getElem?_cons_zero, ↓List.getElem?_cons_succ, List.getElem?_cons_zero, List.getElem?_cons_succ, List.set_cons_zero, List.set_cons_succ, Option.join_some, Option.join_none, Option.map_some, List.all_cons, List.all_nil, Value.oneCell', reduceIte, reduceCtorEq, Nat.reduceEqDiff, Nat.reduceAdd, Nat.reduceMul, Nat.reduceLT, Nat.reduceBEq, Nat.reduceLeDiff, Nat.reduceSub, List.size_toArray] -- r3
  refine ITri.seq ?_
  refine ITri.reg pokT ?_; simp -implicitDefEqProofs (disch := first | decide | exact of_eq_true (eq_true rfl) | omega | assumption) only [ ↓vcD, vcE, evs, evP, evB, intsOf, fillC, Value.cells, pt, List.append_nil, List.nil_append, List.cons_append, List.length_cons, List.length_nil, List.filter_nil, List.map_nil, ↓List.getElem?_cons_zero, ↓List.getElem?_cons_succ, List.getElem?_cons_zero, List.getElem?_cons_succ, List.set_cons_zero, List.set_cons_succ, Option.join_some, Option.join_none, Option.map_some, List.all_cons, List.all_nil, Value.oneCell', reduceIte, reduceCtorEq, Nat.reduceEqDiff, Nat.reduceAdd, Nat.reduceMul, Nat.reduceLT, Nat.reduceBEq, Nat.reduceLeDiff, Nat.reduceSub, List.size_toArray] -- r4
  refine ⟨_, _, doneN_f _ _ _ hx (by omega) hk (sees0 rfl (of_decide_eq_true rfl)) (Rd.hq rfl rfl), ?_⟩
  try simp -implicitDefEqProofs (disch := first | decide | exact of_eq_true (eq_true rfl) | omega | assumption) only [ ↓vcD, vcE, evs, evP, evB, intsOf, fillC, Value.cells, pt, List.append_nil, List.nil_append, List.cons_append, List.length_cons, List.length_nil, List.filter_nil, List.map_nil, ↓List.getElem?_cons_zero, ↓List.getElem?_cons_succ, List.getElem?_cons_zero, List.getElem?_cons_succ, List.set_cons_zero, List.set_cons_succ, Option.join_some, Option.join_none, Option.map_some, List.all_cons, List.all_nil, Value.oneCell', reduceIte, reduceCtorEq, Nat.reduceEqDiff, Nat.reduceAdd, Nat.reduceMul, Nat.reduceLT, Nat.reduceBEq, Nat.reduceLeDiff, Nat.reduceSub, List.size_toArray]
  refine ITri.seq ?_
  refine ITri.reg pokT ?_; simp -implicitDefEqProofs (disch := first | decide | exact of_eq_true (eq_true rfl) | omega | assumption) only [ ↓vcD, vcE, evs, evP, evB, intsOf, fillC, Value.cells, pt, List.append_nil, List.nil_append, List.cons_append, List.length_cons, List.length_nil, List.filter_nil, List.map_nil, ↓List.getElem?_cons_zero, ↓List.getElem?_cons_succ, List.getElem?_cons_zero, List.getElem?_cons_succ, List.set_cons_zero, List.set_cons_succ, Option.join_some, Option.join_none, Option.map_some, List.all_cons, List.all_nil, Value.oneCell', reduceIte, reduceCtorEq, Nat.reduceEqDiff, Nat.reduceAdd, Nat.reduceMul, Nat.reduceLT, Nat.reduceBEq, Nat.reduceLeDiff, Nat.reduceSub, List.size_toArray] -- r5
  refine ⟨_, _, lotS_f _ (sees0 rfl (of_decide_eq_true rfl)), ?_⟩
  try simp -implicitDefEqProofs (disch := first | decide | exact of_eq_true (eq_true rfl) | omega | assumption) only [ ↓vcD, vcE, evs, evP, evB, intsOf, fillC, Value.cells, pt, List.append_nil, List.nil_append, List.cons_append, List.length_cons, List.length_nil, List.filter_nil, List.map_nil, ↓List.getElem?_cons_zero, ↓List.getElem?_cons_succ, List.getElem?_cons_zero, List.getElem?_cons_succ, List.set_cons_zero, List.set_cons_succ, Option.join_some, Option.join_none, Option.map_some, List.all_cons, List.all_nil, Value.oneCell', reduceIte, reduceCtorEq, Nat.reduceEqDiff, Nat.reduceAdd, Nat.reduceMul, Nat.reduceLT, Nat.reduceBEq, Nat.reduceLeDiff, Nat.reduceSub, List.size_toArray]
  refine ITri.seq ?_
  refine ITri.reg pokT ?_; simp -implicitDefEqProofs (disch := first | decide | exact of_eq_true (eq_true rfl) | omega | assumption) only [ ↓vcD, vcE, evs, evP, evB, intsOf, fillC, Value.cells, pt, List.append_nil, List.nil_append, List.cons_append, List.length_cons, List.length_nil, List.filter_nil, List.map_nil, ↓List.getElem?_cons_zero, ↓List.getElem?_cons_succ, List.getElem?_cons_zero, List.getElem?_cons_succ, List.set_cons_zero, List.set_cons_succ, Option.join_some, Option.join_none, Option.map_some, List.all_cons, List.all_nil, Value.oneCell', reduceIte, reduceCtorEq, Nat.reduceEqDiff, Nat.reduceAdd, Nat.reduceMul, Nat.reduceLT, Nat.reduceBEq, Nat.reduceLeDiff, Nat.reduceSub, List.size_toArray] -- r6
  refine ⟨_, _, toolS_f _ (sees0 rfl (of_decide_eq_true rfl)), ?_⟩
  try simp -implicitDefEqProofs (disch := first | decide | exact of_eq_true (eq_true rfl) | omega | assumption) only [ ↓vcD, vcE, evs, evP, evB, intsOf, fillC, Value.cells, pt, List.append_nil, List.nil_append, List.cons_append, List.length_cons, List.length_nil, List.filter_nil, List.map_nil, ↓List.getElem?_cons_zero, ↓List.getElem?_cons_succ, List.getElem?_cons_zero, List.getElem?_cons_succ, List.set_cons_zero, List.set_cons_succ, Option.join_some, Option.join_none, Option.map_some, List.all_cons, List.all_nil, Value.oneCell', reduceIte, reduceCtorEq, Nat.reduceEqDiff, Nat.reduceAdd, Nat.reduceMul, Nat.reduceLT, Nat.reduceBEq, Nat.reduceLeDiff, Nat.reduceSub, List.size_toArray]
  refine ITri.seq ?_
  have z0 : ((0 : Nat) : Int) + ((0 : Nat) : Int) = 0 := rfl
  refine ITri.reg pokT ?_; simp -implicitDefEqProofs (disch := first | decide | exact of_eq_true (eq_true rfl) | omega | assumption) only [eq_lo, z0, decide_true, eq_self,  ↓vcD, vcE, evs, evP, evB, intsOf, fillC, Value.cells, pt, List.append_nil, List.nil_append, List.cons_append, List.length_cons, List.length_nil, List.filter_nil, List.map_nil, ↓List.getElem?_cons_zero, ↓List.getElem?_cons_succ, List.getElem?_cons_zero, List.getElem?_cons_succ, List.set_cons_zero, List.set_cons_succ, Option.join_some, Option.join_none, Option.map_some, List.all_cons, List.all_nil, Value.oneCell', reduceIte, reduceCtorEq, Nat.reduceEqDiff, Nat.reduceAdd, Nat.reduceMul, Nat.reduceLT, Nat.reduceBEq, Nat.reduceLeDiff, Nat.reduceSub, List.size_toArray] -- r7
  refine ⟨_, _, nowN_f (sees0 rfl (of_decide_eq_true rfl)), ?_⟩
  simp -implicitDefEqProofs (disch := first | decide | exact of_eq_true (eq_true rfl) | omega | assumption) only [decide_true, eq_self,  ↓vcD, vcE, evs, evP, evB, intsOf, fillC, Value.cells, pt, List.append_nil, List.nil_append, List.cons_append, List.length_cons, List.length_nil, List.filter_nil, List.map_nil, ↓List.getElem?_cons_zero, ↓List.getElem?_cons_succ, List.getElem?_cons_zero, List.getElem?_cons_succ, List.set_cons_zero, List.set_cons_succ, Option.join_some, Option.join_none, Option.map_some, List.all_cons, List.all_nil, Value.oneCell', reduceIte, reduceCtorEq, Nat.reduceEqDiff, Nat.reduceAdd, Nat.reduceMul, Nat.reduceLT, Nat.reduceBEq, Nat.reduceLeDiff, Nat.reduceSub, List.size_toArray]
  refine ⟨_, _, knownT, ?_⟩
  try simp -implicitDefEqProofs (disch := first | decide | exact of_eq_true (eq_true rfl) | omega | assumption) only [ ↓vcD, vcE, evs, evP, evB, intsOf, fillC, Value.cells, pt, List.append_nil, List.nil_append, List.cons_append, List.length_cons, List.length_nil, List.filter_nil, List.map_nil, ↓List.getElem?_cons_zero, ↓List.getElem?_cons_succ, List.getElem?_cons_zero, List.getElem?_cons_succ, List.set_cons_zero, List.set_cons_succ, Option.join_some, Option.join_none, Option.map_some, List.all_cons, List.all_nil, Value.oneCell', reduceIte, reduceCtorEq, Nat.reduceEqDiff, Nat.reduceAdd, Nat.reduceMul, Nat.reduceLT, Nat.reduceBEq, Nat.reduceLeDiff, Nat.reduceSub, List.size_toArray]
  refine ITri.ret ?_; exact EndR.plain (by simp) (by rfl) (by rfl) (by rfl)
end Go.Proofs.Ytfmcdbcoljpomaa
