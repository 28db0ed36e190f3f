/-
  Chapter 11, by names: Start of one lot in a shop with one tool.
-/
import Derived.Test.YthoigkgjidcklaaWoD
set_option linter.unusedSimpArgs false
set_option linter.unusedVariables false
namespace Go.Proofs.Ythoigkgjidcklaa
open Go.RowKit Go.Vm
set_option maxRecDepth 100000
/-- The shop's memory: one tool, one lot. -/
abbrev tlV (rcp life W : Int) (run : Value) : List Value := [.int .i64 rcp, .int .i64 10, .int .i64 life, .int .i64 0, slO 16 1 1, .int .i64 0, run, .int .i64 W, .bool false, .int .i64 0, pt 13, .slice none 0 0, .map (some 12)]
def mE : Bool → AObj
  | false => .map [] 0
  | true => .map [⟨pt 11, .bool true, 0⟩] 1
abbrev wM (A B C D : Option AObj) (n m : Nat) (rc rt : List Rg) (rcp life now W : Int) (run : Value) (step : Int) (tl : Value) (since : Int) (b : Bool) (T : List (Option AObj)) : List (Option AObj) :=
  none :: A :: B :: C :: D :: some (cO (shV 6 n openB 7 m openB 8 1 openB 9 1 openB now) 1 false) :: some (cO (rows eR rc) 2 true) :: some (cO (rows eR rt) 2 true) :: some (cO [pt 10] 1 true) :: some (cO [pt 11] 1 true)
    :: some (cO (tlV rcp life W run) 1 false) :: some (cO (loV step tl since 0 0) 1 false) :: some (mE b) :: some (cO [.int .i64 0, slO 14 1 openB, .int .i64 0, .map (some 15)] 1 false) :: some (cO [.int .i64 1, .int .i64 1, .int .i64 0] 3 true) :: some (.map [] 0) :: some (cO [.int .i64 1, .int .i64 1, .int .i64 0] 3 false) :: T
/-- What a start leaves behind. -/
abbrev stT (r now w : Int) : List (Option AObj) := [some (cO [.int .i64 1] 1 false), some (cO [pt 11] 1 false), some (cO [pt 11] 1 true), some (cO [.int .i64 5, .int .i64 w] 1 false), some (cO [] 1 false), some (cO (rows eN [1]) 1 true), some (cO [.int .i64 r, .int .i64 (now + 5), slO 22 1 openB, slO 19 1 openB] 1 false)]
/- (*boule/shop.Shop).Start · slots 158 · names 0:s 1:number 2:recipe 3:numbers 4:s 5:number 6:recipe 7:numbers 9:t 10:e 11:lots 12:_ 13:l 14:e 15:r 16:_ 17:l · results [8] -/
def ir21_r0 : IC := .reg [⟨some 8, none, false, .mv (.k (.int .i64 0))⟩] (some [0, 1, 2, 3])
def ir21_r1 : IC := .reg [⟨some 19, none, false, .mv (.t 0)⟩,
  ⟨some 20, none, false, .mv (.t 1)⟩,
  ⟨some 21, none, false, .call (.f 51) [(.t 19), (.t 20)]⟩,
  ⟨some 18, none, false, .mv (.t 21)⟩,
  ⟨some 22, none, false, .ext (.t 18) 0⟩,
  ⟨some 23, none, false, .ext (.t 18) 1⟩,
  ⟨some 9, none, false, .mv (.t 22)⟩,
  ⟨some 10, none, false, .mv (.t 23)⟩] (some [0, 2, 3, 9, 10])
def ir21_r2 : IC := .reg [⟨some 24, none, false, .mv (.t 10)⟩,
  ⟨some 25, none, false, .cmp .neq (.t 24) (.k (.int .i64 0))⟩] (some [0, 2, 3, 9, 10, 25])
def ir21_r3 : IC := .reg [⟨some 26, none, false, .mv (.t 10)⟩,
  ⟨some 8, none, false, .mv (.t 26)⟩] (some [8])
def ir21_1 : IC := .seq ir21_r3 .ret
def ir21_2 : IC := .cond (.t 25) ir21_1 .skip
def ir21_3 : IC := .seq ir21_r2 ir21_2
def ir21_r4 : IC := .reg [⟨some 27, none, false, .mv (.t 2)⟩,
  ⟨some 28, none, false, .mv (.t 0)⟩,
  ⟨some 29, none, false, .nilck (.t 28)⟩,
  ⟨some 30, none, false, .fad 0 (.t 29)⟩,
  ⟨some 31, none, false, .ldc (.t 30)⟩,
  ⟨some 32, none, false, .len (.t 31)⟩,
  ⟨some 33, none, false, .ar .sub (.t 32) (.k (.int .i64 1))⟩,
  ⟨some 34, none, false, .call (.f 29) [(.t 27), (.k (.int .i64 0)), (.t 33)]⟩,
  ⟨some 35, none, false, .not (.t 34)⟩] (some [0, 2, 3, 9, 35])
def ir21_r5 : IC := .reg [⟨some 8, none, false, .mv (.k (.int .i64 7))⟩] (some [8])
def ir21_4 : IC := .seq ir21_r5 .ret
def ir21_5 : IC := .cond (.t 35) ir21_4 .skip
def ir21_6 : IC := .seq ir21_r4 ir21_5
def ir21_r6 : IC := .reg [⟨some 37, none, false, .mv (.t 0)⟩,
  ⟨some 38, none, false, .mv (.t 3)⟩,
  ⟨some 39, none, false, .call (.f 63) [(.t 37), (.t 38)]⟩,
  ⟨some 36, none, false, .mv (.t 39)⟩,
  ⟨some 40, none, false, .ext (.t 36) 0⟩,
  ⟨some 41, none, false, .ext (.t 36) 1⟩,
  ⟨some 11, none, false, .mv (.t 40)⟩,
  ⟨some 10, none, false, .mv (.t 41)⟩] (some [0, 2, 3, 9, 10, 11])
def ir21_r7 : IC := .reg [⟨some 43, none, false, .mv (.t 10)⟩,
  ⟨some 44, none, false, .cmp .neq (.t 43) (.k (.int .i64 0))⟩,
  ⟨some 42, none, false, .mv (.t 44)⟩] (some [0, 2, 3, 9, 10, 11, 42])
def ir21_r8 : IC := .reg [⟨some 45, none, false, .mv (.t 10)⟩,
  ⟨some 8, none, false, .mv (.t 45)⟩] (some [8])
def ir21_7 : IC := .seq ir21_r8 .ret
def ir21_r9 : IC := .reg [⟨some 47, none, false, .mv (.t 11)⟩,
  ⟨some 48, none, false, .len (.t 47)⟩,
  ⟨some 49, none, false, .mv (.t 9)⟩,
  ⟨some 50, none, false, .nilck (.t 49)⟩,
  ⟨some 51, none, false, .fad 0 (.t 50)⟩,
  ⟨some 52, none, false, .fad 1 (.t 51)⟩,
  ⟨some 53, none, false, .ldc (.t 52)⟩,
  ⟨some 54, none, false, .cmp .gtr (.t 48) (.t 53)⟩,
  ⟨some 46, none, false, .mv (.t 54)⟩] (some [0, 2, 3, 9, 11, 46])
def ir21_r10 : IC := .reg [⟨some 8, none, false, .mv (.k (.int .i64 5))⟩] (some [8])
def ir21_8 : IC := .seq ir21_r10 .ret
def ir21_r11 : IC := .reg [⟨some 56, none, false, .mv (.t 9)⟩,
  ⟨some 57, none, false, .nilck (.t 56)⟩,
  ⟨some 58, none, false, .fad 6 (.t 57)⟩,
  ⟨some 59, none, false, .ldc (.t 58)⟩,
  ⟨some 60, none, false, .gen (.binOp .neq 126 (.tmp 59) (.const (.pointer none)) 126)⟩,
  ⟨some 55, none, false, .mv (.t 60)⟩] (some [0, 2, 3, 9, 11, 55])
def ir21_r12 : IC := .reg [⟨some 8, none, false, .mv (.k (.int .i64 9))⟩] (some [8])
def ir21_9 : IC := .seq ir21_r12 .ret
def ir21_r13 : IC := .reg [⟨some 62, none, false, .mv (.t 9)⟩,
  ⟨some 63, none, false, .nilck (.t 62)⟩,
  ⟨some 64, none, false, .fad 8 (.t 63)⟩,
  ⟨some 65, none, false, .ldc (.t 64)⟩,
  ⟨some 61, none, false, .mv (.t 65)⟩] (some [0, 2, 3, 9, 11, 61])
def ir21_r14 : IC := .reg [⟨some 8, none, false, .mv (.k (.int .i64 110))⟩] (some [8])
def ir21_10 : IC := .seq ir21_r14 .ret
def ir21_r15 : IC := .reg [⟨some 67, none, false, .mv (.t 9)⟩,
  ⟨some 68, none, false, .nilck (.t 67)⟩,
  ⟨some 69, none, false, .fad 0 (.t 68)⟩,
  ⟨some 70, none, false, .fad 0 (.t 69)⟩,
  ⟨some 71, none, false, .ldc (.t 70)⟩,
  ⟨some 72, none, false, .mv (.t 2)⟩,
  ⟨some 73, none, false, .shf .shr (.t 71) (.t 72)⟩,
  ⟨some 74, none, false, .bits .and (.t 73) (.k (.int .i64 1))⟩,
  ⟨some 75, none, false, .cmp .eql (.t 74) (.k (.int .i64 0))⟩,
  ⟨some 66, none, false, .mv (.t 75)⟩] (some [0, 2, 3, 9, 11, 66])
def ir21_r16 : IC := .reg [⟨some 8, none, false, .mv (.k (.int .i64 111))⟩] (some [8])
def ir21_11 : IC := .seq ir21_r16 .ret
def ir21_12 : IC := .cond (.t 66) ir21_11 .skip
def ir21_13 : IC := .seq ir21_r15 ir21_12
def ir21_14 : IC := .cond (.t 61) ir21_10 ir21_13
def ir21_15 : IC := .seq ir21_r13 ir21_14
def ir21_16 : IC := .cond (.t 55) ir21_9 ir21_15
def ir21_17 : IC := .seq ir21_r11 ir21_16
def ir21_18 : IC := .cond (.t 46) ir21_8 ir21_17
def ir21_19 : IC := .seq ir21_r9 ir21_18
def ir21_20 : IC := .cond (.t 42) ir21_7 ir21_19
def ir21_21 : IC := .seq ir21_r7 ir21_20
def ir21_22 : IC := .block 0 ir21_21
def ir21_r17 : IC := .reg [⟨some 76, none, false, .mv (.t 11)⟩,
  ⟨some 77, none, false, .len (.t 76)⟩,
  ⟨some 78, none, false, .mv (.k (.int .i64 0))⟩] (some [0, 2, 3, 9, 11, 76, 77, 78])
def ir21_r18 : IC := .reg [⟨some 79, none, false, .cmp .lss (.t 78) (.t 77)⟩] (some [0, 2, 3, 9, 11, 76, 77, 78, 79])
def ir21_23 : IC := .cond (.t 79) .skip (.exit 1)
def ir21_r19 : IC := .reg [⟨some 80, none, false, .iad 1 (.t 76) (.t 78)⟩,
  ⟨some 81, none, false, .ldc (.t 80)⟩,
  ⟨some 13, none, false, .mv (.t 81)⟩] (some [0, 2, 3, 9, 11, 13, 76, 77, 78])
def ir21_r20 : IC := .reg [⟨some 82, none, false, .mv (.t 0)⟩,
  ⟨some 83, none, false, .mv (.t 13)⟩,
  ⟨some 84, none, false, .mv (.t 2)⟩,
  ⟨some 85, none, false, .call (.f 64) [(.t 82), (.t 83), (.t 84)]⟩,
  ⟨some 14, none, false, .mv (.t 85)⟩] (some [0, 2, 3, 9, 11, 14, 76, 77, 78])
def ir21_r21 : IC := .reg [⟨some 86, none, false, .mv (.t 14)⟩,
  ⟨some 87, none, false, .cmp .neq (.t 86) (.k (.int .i64 0))⟩] (some [0, 2, 3, 9, 11, 14, 76, 77, 78, 87])
def ir21_r22 : IC := .reg [⟨some 88, none, false, .mv (.t 14)⟩,
  ⟨some 8, none, false, .mv (.t 88)⟩] (some [8])
def ir21_24 : IC := .seq ir21_r22 .ret
def ir21_25 : IC := .cond (.t 87) ir21_24 .skip
def ir21_26 : IC := .seq ir21_r21 ir21_25
def ir21_27 : IC := .seq ir21_r20 ir21_26
def ir21_28 : IC := .seq ir21_r19 ir21_27
def ir21_29 : IC := .block 2 ir21_28
def ir21_r23 : IC := .reg [⟨some 89, none, false, .ar .add (.t 78) (.k (.int .i64 1))⟩,
  ⟨some 78, none, false, .mv (.t 89)⟩] (some [0, 2, 3, 9, 11, 76, 77, 78])
def ir21_30 : IC := .seq ir21_29 ir21_r23
def ir21_31 : IC := .seq ir21_23 ir21_30
def ir21_32 : IC := .seq ir21_r18 ir21_31
def ir21_33 : IC := .loop ir21_32
def ir21_34 : IC := .block 1 ir21_33
def ir21_35 : IC := .seq ir21_r17 ir21_34
def ir21_r24 : IC := .reg [⟨some 90, none, false, .mv (.t 0)⟩,
  ⟨some 91, none, false, .nilck (.t 90)⟩,
  ⟨some 92, none, false, .fad 0 (.t 91)⟩,
  ⟨some 93, none, false, .ldc (.t 92)⟩,
  ⟨some 94, none, false, .mv (.t 2)⟩,
  ⟨some 95, none, false, .iad 2 (.t 93) (.t 94)⟩,
  ⟨some 96, none, false, .lda 2 (.t 95)⟩,
  ⟨some 15, none, false, .alloc [(.int .i64 0), (.int .i64 0)]⟩,
  ⟨none, none, false, .st 2 (.t 15) (.t 96)⟩] (some [0, 2, 3, 9, 11, 15])
def ir21_r25 : IC := .draw [(⟨some 97, none, false, .mv (.t 9)⟩, false, 0, 0),
  (⟨some 98, none, false, .nilck (.t 97)⟩, false, 1, 0),
  (⟨some 99, none, false, .fad 7 (.t 98)⟩, false, 3, 0),
  (⟨some 100, none, false, .ldc (.t 99)⟩, false, 7, 1),
  (⟨some 101, none, false, .fad 1 (.t 15)⟩, false, 0, 0),
  (⟨some 102, none, false, .ldc (.t 101)⟩, false, 16, 8),
  (⟨some 103, none, false, .ar .add (.t 100) (.t 102)⟩, false, 63, 0),
  (⟨some 104, none, false, .mv (.t 9)⟩, false, 0, 0),
  (⟨some 105, none, false, .nilck (.t 104)⟩, false, 128, 0),
  (⟨some 106, none, false, .fad 0 (.t 105)⟩, false, 384, 0),
  (⟨some 107, none, false, .fad 2 (.t 106)⟩, false, 896, 0),
  (⟨some 108, none, false, .ldc (.t 107)⟩, false, 1920, 24),
  (⟨some 109, none, false, .cmp .gtr (.t 103) (.t 108)⟩, false, 4095, 0)] (some [0, 2, 3, 9, 11, 15, 109])
def ir21_r26 : IC := .reg [⟨some 8, none, false, .mv (.k (.int .i64 113))⟩] (some [8])
def ir21_36 : IC := .seq ir21_r26 .ret
def ir21_37 : IC := .cond (.t 109) ir21_36 .skip
def ir21_38 : IC := .seq ir21_r25 ir21_37
def ir21_r27 : IC := .draw [(⟨some 110, none, false, .mv (.t 9)⟩, false, 0, 0),
  (⟨some 111, none, false, .nilck (.t 110)⟩, false, 1, 0),
  (⟨some 112, none, false, .fad 7 (.t 111)⟩, false, 3, 0),
  (⟨some 113, none, false, .ldc (.t 112)⟩, false, 7, 1),
  (⟨some 114, none, false, .fad 1 (.t 15)⟩, false, 0, 0),
  (⟨some 115, none, false, .ldc (.t 114)⟩, false, 16, 8),
  (⟨some 116, none, false, .ar .add (.t 113) (.t 115)⟩, false, 63, 0),
  (⟨some 117, none, false, .nilck (.t 110)⟩, false, 127, 0),
  (⟨some 118, none, false, .fad 7 (.t 117)⟩, false, 255, 0),
  (⟨none, none, false, .st 1 (.t 118) (.t 116)⟩, true, 511, 0)] (some [0, 2, 3, 9, 11, 15])
def ir21_r28 : IC := .draw [(⟨some 119, none, false, .mv (.t 9)⟩, false, 0, 0),
  (⟨some 120, none, false, .mv (.t 2)⟩, false, 0, 0),
  (⟨some 121, none, false, .mv (.t 0)⟩, false, 0, 0),
  (⟨some 122, none, false, .nilck (.t 121)⟩, false, 4, 0),
  (⟨some 123, none, false, .fad 4 (.t 122)⟩, false, 12, 0),
  (⟨some 124, none, false, .ldc (.t 123)⟩, false, 28, 1),
  (⟨some 125, none, false, .fad 0 (.t 15)⟩, false, 0, 0),
  (⟨some 126, none, false, .ldc (.t 125)⟩, false, 64, 29),
  (⟨some 127, none, false, .ar .add (.t 124) (.t 126)⟩, false, 252, 0),
  (⟨some 128, none, false, .mv (.t 3)⟩, false, 0, 0),
  (⟨some 129, none, false, .call (.f 52) [(.t 128)]⟩, false, 512, 93),
  (⟨some 130, none, false, .mv (.t 11)⟩, false, 0, 0),
  (⟨some 131, none, false, .bld [(.int .i64 0), (.int .i64 0), (.slice none 0 0), (.slice none 0 0)] [(0, 1, (.t 120)), (1, 1, (.t 127)), (2, 1, (.t 129)), (3, 1, (.t 130))]⟩, false, 4094, 0),
  (⟨some 132, none, false, .box (.t 131)⟩, true, 8190, 0),
  (⟨some 133, none, false, .nilck (.t 119)⟩, false, 16383, 0),
  (⟨some 134, none, false, .fad 6 (.t 133)⟩, false, 32767, 0),
  (⟨none, none, false, .st 1 (.t 134) (.t 132)⟩, true, 65535, 0)] (some [0, 9, 11])
def ir21_r29 : IC := .reg [⟨some 135, none, false, .mv (.t 11)⟩,
  ⟨some 136, none, false, .len (.t 135)⟩,
  ⟨some 137, none, false, .mv (.k (.int .i64 0))⟩] (some [0, 9, 135, 136, 137])
def ir21_r30 : IC := .reg [⟨some 138, none, false, .cmp .lss (.t 137) (.t 136)⟩] (some [0, 9, 135, 136, 137, 138])
def ir21_39 : IC := .cond (.t 138) .skip (.exit 3)
def ir21_r31 : IC := .reg [⟨some 139, none, false, .iad 1 (.t 135) (.t 137)⟩,
  ⟨some 140, none, false, .ldc (.t 139)⟩,
  ⟨some 17, none, false, .mv (.t 140)⟩] (some [0, 9, 17, 135, 136, 137])
def ir21_r32 : IC := .reg [⟨some 141, none, false, .mv (.t 17)⟩,
  ⟨some 142, none, false, .mv (.t 17)⟩,
  ⟨some 143, none, false, .mv (.t 9)⟩,
  ⟨some 144, none, false, .mv (.t 0)⟩,
  ⟨some 145, none, false, .nilck (.t 144)⟩,
  ⟨some 146, none, false, .fad 4 (.t 145)⟩,
  ⟨some 147, none, false, .ldc (.t 146)⟩,
  ⟨some 148, none, false, .nilck (.t 141)⟩,
  ⟨some 149, none, false, .fad 1 (.t 148)⟩,
  ⟨none, none, false, .st 1 (.t 149) (.t 143)⟩,
  ⟨some 150, none, false, .nilck (.t 142)⟩,
  ⟨some 151, none, false, .fad 2 (.t 150)⟩,
  ⟨none, none, false, .st 1 (.t 151) (.t 147)⟩] (some [0, 9, 17, 135, 136, 137])
def ir21_r33 : IC := .reg [⟨some 152, none, false, .mv (.t 9)⟩,
  ⟨some 153, none, false, .nilck (.t 152)⟩,
  ⟨some 154, none, false, .fad 12 (.t 153)⟩,
  ⟨some 155, none, false, .ldc (.t 154)⟩,
  ⟨some 156, none, false, .mv (.t 17)⟩,
  ⟨none, none, false, .gen (.mapUpdate 125 (.tmp 155) (.tmp 156) (.const (.bool true)))⟩] (some [0, 9, 135, 136, 137])
def ir21_40 : IC := .seq ir21_r32 ir21_r33
def ir21_41 : IC := .seq ir21_r31 ir21_40
def ir21_42 : IC := .block 4 ir21_41
def ir21_r34 : IC := .reg [⟨some 157, none, false, .ar .add (.t 137) (.k (.int .i64 1))⟩,
  ⟨some 137, none, false, .mv (.t 157)⟩] (some [0, 9, 135, 136, 137])
def ir21_43 : IC := .seq ir21_42 ir21_r34
def ir21_44 : IC := .seq ir21_39 ir21_43
def ir21_45 : IC := .seq ir21_r30 ir21_44
def ir21_46 : IC := .loop ir21_45
def ir21_47 : IC := .block 3 ir21_46
def ir21_48 : IC := .seq ir21_r29 ir21_47
def ir21_r35 : IC := .reg [⟨some 8, none, false, .mv (.k (.int .i64 0))⟩] (some [8])
def ir21_49 : IC := .seq ir21_r35 .ret
def ir21_50 : IC := .seq ir21_48 ir21_49
def ir21_51 : IC := .seq ir21_r28 ir21_50
def ir21_52 : IC := .seq ir21_r27 ir21_51
def ir21_53 : IC := .seq ir21_38 ir21_52
def ir21_54 : IC := .seq ir21_r24 ir21_53
def ir21_55 : IC := .seq ir21_35 ir21_54
def ir21_56 : IC := .seq ir21_22 ir21_55
def ir21_57 : IC := .seq ir21_r6 ir21_56
def ir21_58 : IC := .seq ir21_6 ir21_57
def ir21_59 : IC := .seq ir21_3 ir21_58
def ir21_60 : IC := .seq ir21_r1 ir21_59
def ir21_61 : IC := .seq ir21_r0 ir21_60
def ir21 : IC := ir21_61
theorem fn21 : FnIs Try.prog 21 ir21 158 [.tmp 8] := ⟨Try.f21, Try.f21.body.getD .skip, Try.func21, by kernel_rfl, by kernel_rfl, by kernel_rfl, by kernel_rfl⟩
section
variable {A B C D : Option AObj} {n m k : Nat} {rc rt : List Rg} {rcp life now W r w since : Int} {b : Bool}
theorem start_ok (hrc : rc.length = n) (hrt : rt.length = m) (hn : n ≤ 8) (hm : m ≤ 12) (hr : 0 ≤ r ∧ r < n) (hk : k < m) (hkr : (nth rt k).1 = r) (hrw : nth rc r.toNat = (5, w)) (hw : 0 ≤ w ∧ w ≤ 1000000) (hW : 0 ≤ W ∧ W ≤ 1000000) (hnow : 0 ≤ now ∧ now ≤ 1000000)
    (hl : W + w ≤ life) (hbit : btI .and .i64 (shI .shr .i64 rcp r) 1 = 1) :
    Fc Try.prog 21 [pt 5, .int .i64 0, .int .i64 r, slO 17 1 1] (Hp 3 (wM A B C D n m rc rt rcp life now W (.pointer none) k (.pointer none) since b [some (cO [.int .i64 1] 1 false)])) (.int .i64 0)
      (Hp 3 (wM A B C D n m rc rt rcp life now (W + w) (pt 23) k (pt 10) now true (stT r now w))) := by
  have hnn : ∀ a, (notNil (.pointer (some a)) = true) = True := fun a => eq_true rfl
  have hin : inT r 0 ((n : Int) - 1) = true := by
    unfold inT
    simp only [Bool.and_eq_true, decide_eq_true_eq]
    omega
  have h10 : ¬ ((1 : Int) > 10) := by decide
  refine Fc.introX fn21 (by simp) (fun _ => grow_hq (by simp) (by rfl)) ?_; simp only [argF]
  refine ITri.seq ?_
  refine ITri.reg pok ?_; simp -implicitDefEqProofs (disch := first | decide | exact of_eq_true (eq_true rfl) | omega | assumption) only [ ↓vcD, vcE, ↓vcG, vcF, evs, evP, evB, intsOf, fillC, Value.cells, pt, Value.oneCell', reduceIte, reduceCtorEq, Nat.reduceEqDiff, Nat.reduceAdd, Nat.reduceMul, Nat.reduceLT, Nat.reduceBEq, Nat.reduceLeDiff, Nat.reduceSub] -- r0
  refine ITri.seq ?_
  refine ITri.reg pok ?_; simp -implicitDefEqProofs (disch := first | decide | exact of_eq_true (eq_true rfl) | omega | assumption) only [ ↓vcD, vcE, ↓vcG, vcF, evs, evP, evB, intsOf, fillC, Value.cells, pt, Value.oneCell', reduceIte, reduceCtorEq, Nat.reduceEqDiff, Nat.reduceAdd, Nat.reduceMul, Nat.reduceLT, Nat.reduceBEq, Nat.reduceLeDiff, Nat.reduceSub] -- r1
  refine ⟨_, _, tool_f (i := 0) (q := 10) (by simp) rfl rfl rfl (by omega) (by omega) rfl, ?_⟩
  try simp -implicitDefEqProofs (disch := first | decide | exact of_eq_true (eq_true rfl) | omega | assumption) only [ ↓vcD, vcE, ↓vcG, vcF, evs, evP, evB, intsOf, fillC, Value.cells, pt, Value.oneCell', reduceIte, reduceCtorEq, Nat.reduceEqDiff, Nat.reduceAdd, Nat.reduceMul, Nat.reduceLT, Nat.reduceBEq, Nat.reduceLeDiff, Nat.reduceSub]
  refine ITri.seq ?_
  refine ITri.seq ?_
  refine ITri.reg pok ?_; simp -implicitDefEqProofs (disch := first | decide | exact of_eq_true (eq_true rfl) | omega | assumption) only [ ↓vcD, vcE, ↓vcG, vcF, evs, evP, evB, intsOf, fillC, Value.cells, pt, Value.oneCell', reduceIte, reduceCtorEq, Nat.reduceEqDiff, Nat.reduceAdd, Nat.reduceMul, Nat.reduceLT, Nat.reduceBEq, Nat.reduceLeDiff, Nat.reduceSub] -- r2
  refine ITri.cond (v := false) rfl (fun h => by cases h) (fun _ => ?_); refine ITri.skip ?_; simp only [SeqQ_normal, BlkQ_normal]
  refine ITri.seq ?_
  refine ITri.seq ?_
  refine ITri.reg pok ?_; simp -implicitDefEqProofs (disch := first | decide | exact of_eq_true (eq_true rfl) | omega | assumption) only [hnn,  ↓vcD, vcE, ↓vcG, vcF, evs, evP, evB, intsOf, fillC, Value.cells, pt, Value.oneCell', reduceIte, reduceCtorEq, Nat.reduceEqDiff, Nat.reduceAdd, Nat.reduceMul, Nat.reduceLT, Nat.reduceBEq, Nat.reduceLeDiff, Nat.reduceSub] -- r4
  refine ⟨_, _, in_f _ _ _ (sees0 rfl (of_decide_eq_true rfl)), ?_⟩
  simp -implicitDefEqProofs (disch := first | decide | exact of_eq_true (eq_true rfl) | omega | assumption) only [hin, Bool.not_true,  ↓vcD, vcE, ↓vcG, vcF, evs, evP, evB, intsOf, fillC, Value.cells, pt, Value.oneCell', reduceIte, reduceCtorEq, Nat.reduceEqDiff, Nat.reduceAdd, Nat.reduceMul, Nat.reduceLT, Nat.reduceBEq, Nat.reduceLeDiff, Nat.reduceSub]
  refine ITri.cond (v := false) rfl (fun h => by cases h) (fun _ => ?_); refine ITri.skip ?_; simp only [SeqQ_normal, BlkQ_normal]
  refine ITri.seq ?_
  refine ITri.reg pok ?_; simp -implicitDefEqProofs (disch := first | decide | exact of_eq_true (eq_true rfl) | omega | assumption) only [ ↓vcD, vcE, ↓vcG, vcF, evs, evP, evB, intsOf, fillC, Value.cells, pt, Value.oneCell', reduceIte, reduceCtorEq, Nat.reduceEqDiff, Nat.reduceAdd, Nat.reduceMul, Nat.reduceLT, Nat.reduceBEq, Nat.reduceLeDiff, Nat.reduceSub] -- r6
  refine ⟨_, _, gather1_f (i := 0) (q := 11) (by simp) rfl rfl rfl rfl (by omega) (by omega) rfl, ?_⟩
  try simp -implicitDefEqProofs (disch := first | decide | exact of_eq_true (eq_true rfl) | omega | assumption) only [ ↓vcD, vcE, ↓vcG, vcF, evs, evP, evB, intsOf, fillC, Value.cells, pt, Value.oneCell', reduceIte, reduceCtorEq, Nat.reduceEqDiff, Nat.reduceAdd, Nat.reduceMul, Nat.reduceLT, Nat.reduceBEq, Nat.reduceLeDiff, Nat.reduceSub]
  refine ITri.seq ?_
  refine ITri.block ?_ -- 0
  refine ITri.seq ?_
  refine ITri.reg pok ?_; simp -implicitDefEqProofs (disch := first | decide | exact of_eq_true (eq_true rfl) | omega | assumption) only [ ↓vcD, vcE, ↓vcG, vcF, evs, evP, evB, intsOf, fillC, Value.cells, pt, Value.oneCell', reduceIte, reduceCtorEq, Nat.reduceEqDiff, Nat.reduceAdd, Nat.reduceMul, Nat.reduceLT, Nat.reduceBEq, Nat.reduceLeDiff, Nat.reduceSub] -- r7
  refine ITri.cond (v := false) rfl (fun h => by cases h) (fun _ => ?_)
  refine ITri.seq ?_
  refine ITri.reg pok ?_; simp -implicitDefEqProofs (disch := first | decide | exact of_eq_true (eq_true rfl) | omega | assumption) only [hnn,  ↓vcD, vcE, ↓vcG, vcF, evs, evP, evB, intsOf, fillC, Value.cells, pt, Value.oneCell', reduceIte, reduceCtorEq, Nat.reduceEqDiff, Nat.reduceAdd, Nat.reduceMul, Nat.reduceLT, Nat.reduceBEq, Nat.reduceLeDiff, Nat.reduceSub] -- r9
  refine ITri.cond (v := false) rfl (fun h => by cases h) (fun _ => ?_)
  refine ITri.seq ?_
  refine ITri.reg pok ?_; simp -implicitDefEqProofs (disch := first | decide | exact of_eq_true (eq_true rfl) | omega | assumption) only [hnn,  ↓vcD, vcE, ↓vcG, vcF, evs, evP, evB, intsOf, fillC, Value.cells, pt, Value.oneCell', reduceIte, reduceCtorEq, Nat.reduceEqDiff, Nat.reduceAdd, Nat.reduceMul, Nat.reduceLT, Nat.reduceBEq, Nat.reduceLeDiff, Nat.reduceSub] -- r11
  refine gen_pnln rfl (by kernel_rfl) ?_
  try simp -implicitDefEqProofs (disch := first | decide | exact of_eq_true (eq_true rfl) | omega | assumption) only [ ↓vcD, vcE, ↓vcG, vcF, evs, evP, evB, intsOf, fillC, Value.cells, pt, Value.oneCell', reduceIte, reduceCtorEq, Nat.reduceEqDiff, Nat.reduceAdd, Nat.reduceMul, Nat.reduceLT, Nat.reduceBEq, Nat.reduceLeDiff, Nat.reduceSub]
  refine ITri.cond (v := false) rfl (fun h => by cases h) (fun _ => ?_)
  refine ITri.seq ?_
  refine ITri.reg pok ?_; simp -implicitDefEqProofs (disch := first | decide | exact of_eq_true (eq_true rfl) | omega | assumption) only [hnn,  ↓vcD, vcE, ↓vcG, vcF, evs, evP, evB, intsOf, fillC, Value.cells, pt, Value.oneCell', reduceIte, reduceCtorEq, Nat.reduceEqDiff, Nat.reduceAdd, Nat.reduceMul, Nat.reduceLT, Nat.reduceBEq, Nat.reduceLeDiff, Nat.reduceSub] -- r13
  refine ITri.cond (v := false) rfl (fun h => by cases h) (fun _ => ?_)
  refine ITri.seq ?_
  refine ITri.reg pok ?_; simp -implicitDefEqProofs (disch := first | decide | exact of_eq_true (eq_true rfl) | omega | assumption) only [hnn, hbit,  ↓vcD, vcE, ↓vcG, vcF, evs, evP, evB, intsOf, fillC, Value.cells, pt, Value.oneCell', reduceIte, reduceCtorEq, Nat.reduceEqDiff, Nat.reduceAdd, Nat.reduceMul, Nat.reduceLT, Nat.reduceBEq, Nat.reduceLeDiff, Nat.reduceSub] -- r15
  refine ITri.cond (v := false) rfl (fun h => by cases h) (fun _ => ?_); refine ITri.skip ?_; simp only [SeqQ_normal, BlkQ_normal]
  refine ITri.seq ?_
  refine ITri.seq ?_
  refine ITri.reg pok ?_; simp -implicitDefEqProofs (disch := first | decide | exact of_eq_true (eq_true rfl) | omega | assumption) only [ ↓vcD, vcE, ↓vcG, vcF, evs, evP, evB, intsOf, fillC, Value.cells, pt, Value.oneCell', reduceIte, reduceCtorEq, Nat.reduceEqDiff, Nat.reduceAdd, Nat.reduceMul, Nat.reduceLT, Nat.reduceBEq, Nat.reduceLeDiff, Nat.reduceSub] -- r17
  refine ITri.block ?_ -- 1
  refine ITri.loop (fun p : Nat => [(0, pt 5), (2, .int .i64 r), (3, slO 17 1 1), (9, pt 10), (11, slO 19 1 openB), (76, slO 19 1 openB), (77, .int .i64 1), (78, .int .i64 p)]) (fun _ => []) (fun _ => Hp 3 (wM A B C D n m rc rt rcp life now W (.pointer none) k (.pointer none) since b [some (cO [.int .i64 1] 1 false), some (cO [pt 11] 1 false), some (cO [pt 11] 1 true)])) (fun p => p ≤ 1) (fun p => 1 - p) 0 (by omega) (Wk.sub ⟨rfl, rfl, rfl, rfl, rfl, rfl, rfl, rfl, trivial⟩) (fun p hp => ?_)
  refine ITri.seq ?_
  refine ITri.reg pok ?_; simp -implicitDefEqProofs (disch := first | decide | exact of_eq_true (eq_true rfl) | omega | assumption) only [ ↓vcD, vcE, ↓vcG, vcF, evs, evP, evB, intsOf, fillC, Value.cells, pt, Value.oneCell', reduceIte, reduceCtorEq, Nat.reduceEqDiff, Nat.reduceAdd, Nat.reduceMul, Nat.reduceLT, Nat.reduceBEq, Nat.reduceLeDiff, Nat.reduceSub] -- r18
  refine ITri.seq ?_
  refine ITri.condD (by rfl) (fun h9 => ?_) (fun h9 => ?_) -- %79
  · obtain rfl : p = 0 := by omega
    refine ITri.skip ?_; simp only [SeqQ_normal, BlkQ_normal]
    refine ITri.seq ?_
    refine ITri.block ?_ -- 2
    refine ITri.seq ?_
    refine ITri.reg pok ?_; simp -implicitDefEqProofs (disch := first | decide | exact of_eq_true (eq_true rfl) | omega | assumption) only [ ↓vcD, vcE, ↓vcG, vcF, evs, evP, evB, intsOf, fillC, Value.cells, pt, Value.oneCell', reduceIte, reduceCtorEq, Nat.reduceEqDiff, Nat.reduceAdd, Nat.reduceMul, Nat.reduceLT, Nat.reduceBEq, Nat.reduceLeDiff, Nat.reduceSub] -- r19
    refine ITri.seq ?_
    refine ITri.reg pok ?_; simp -implicitDefEqProofs (disch := first | decide | exact of_eq_true (eq_true rfl) | omega | assumption) only [ ↓vcD, vcE, ↓vcG, vcF, evs, evP, evB, intsOf, fillC, Value.cells, pt, Value.oneCell', reduceIte, reduceCtorEq, Nat.reduceEqDiff, Nat.reduceAdd, Nat.reduceMul, Nat.reduceLT, Nat.reduceBEq, Nat.reduceLeDiff, Nat.reduceSub] -- r20
    have ht : takeC (rows eR rt) (k * 2) 2 = some [.int .i64 r, .int .i64 (nth rt k).2] := by
      rw [takeR (by omega), ← hkr]
      rfl
    refine ⟨_, _, ready_f (z3 := 2) (op3 := true) (rec := r) rfl rfl rfl hk (by omega) ht ?_, ?_⟩
    · rw [← hkr]; exact rows_get0 (f := eR) (by omega) (by omega)
    try simp -implicitDefEqProofs (disch := first | decide | exact of_eq_true (eq_true rfl) | omega | assumption) only [ ↓vcD, vcE, ↓vcG, vcF, evs, evP, evB, intsOf, fillC, Value.cells, pt, Value.oneCell', reduceIte, reduceCtorEq, Nat.reduceEqDiff, Nat.reduceAdd, Nat.reduceMul, Nat.reduceLT, Nat.reduceBEq, Nat.reduceLeDiff, Nat.reduceSub]
    refine ITri.seq ?_
    refine ITri.reg pok ?_; simp -implicitDefEqProofs (disch := first | decide | exact of_eq_true (eq_true rfl) | omega | assumption) only [ ↓vcD, vcE, ↓vcG, vcF, evs, evP, evB, intsOf, fillC, Value.cells, pt, Value.oneCell', reduceIte, reduceCtorEq, Nat.reduceEqDiff, Nat.reduceAdd, Nat.reduceMul, Nat.reduceLT, Nat.reduceBEq, Nat.reduceLeDiff, Nat.reduceSub] -- r21
    refine ITri.cond (v := false) rfl (fun h => by cases h) (fun _ => ?_); refine ITri.skip ?_; simp only [SeqQ_normal, BlkQ_normal]
    refine ITri.reg pok ?_; simp -implicitDefEqProofs (disch := first | decide | exact of_eq_true (eq_true rfl) | omega | assumption) only [ ↓vcD, vcE, ↓vcG, vcF, evs, evP, evB, intsOf, fillC, Value.cells, pt, Value.oneCell', reduceIte, reduceCtorEq, Nat.reduceEqDiff, Nat.reduceAdd, Nat.reduceMul, Nat.reduceLT, Nat.reduceBEq, Nat.reduceLeDiff, Nat.reduceSub] -- r23
    exact LoopQ.next 1 (by omega) (by omega) (Wk.sub ⟨rfl, rfl, rfl, rfl, rfl, rfl, rfl, rfl, trivial⟩)
  refine ITri.exit ?_; try simp -implicitDefEqProofs (disch := first | decide | exact of_eq_true (eq_true rfl) | omega | assumption) only [ ↓vcD, vcE, ↓vcG, vcF, evs, evP, evB, intsOf, fillC, Value.cells, pt, Value.oneCell', reduceIte, reduceCtorEq, Nat.reduceEqDiff, Nat.reduceAdd, Nat.reduceMul, Nat.reduceLT, Nat.reduceBEq, Nat.reduceLeDiff, Nat.reduceSub]
  have htr : takeC (rows eR rc) (r.toNat * 2) 2 = some [.int .i64 5, .int .i64 w] := by
    rw [takeR (by omega), hrw]
    rfl
  have hr0 := hr.1
  have hr1 := hr.2
  refine ITri.seq ?_
  refine ITri.reg pok ?_; simp -implicitDefEqProofs (disch := first | decide | exact of_eq_true (eq_true rfl) | omega | assumption) only [hnn, htr,  ↓vcD, vcE, ↓vcG, vcF, evs, evP, evB, intsOf, fillC, Value.cells, pt, Value.oneCell', reduceIte, reduceCtorEq, Nat.reduceEqDiff, Nat.reduceAdd, Nat.reduceMul, Nat.reduceLT, Nat.reduceBEq, Nat.reduceLeDiff, Nat.reduceSub] -- r24
  have hgt : ¬ (W + w > life) := by omega
  refine ITri.seq ?_
  refine ITri.seq ?_
  refine ITri.draw pok ?_; simp -implicitDefEqProofs (disch := first | decide | exact of_eq_true (eq_true rfl) | omega | assumption) only [hnn, hgt, decide_false,  ↓vcD, vcE, ↓vcG, vcF, evs, evP, evB, intsOf, fillC, Value.cells, pt, Value.oneCell', reduceIte, reduceCtorEq, Nat.reduceEqDiff, Nat.reduceAdd, Nat.reduceMul, Nat.reduceLT, Nat.reduceBEq, Nat.reduceLeDiff, Nat.reduceSub] -- r25
  refine ITri.cond (v := false) rfl (fun h => by cases h) (fun _ => ?_); refine ITri.skip ?_; simp only [SeqQ_normal, BlkQ_normal]
  refine ITri.seq ?_
  refine ITri.draw pok ?_; simp -implicitDefEqProofs (disch := first | decide | exact of_eq_true (eq_true rfl) | omega | assumption) only [hnn,  ↓vcD, vcE, ↓vcG, vcF, evs, evP, evB, intsOf, fillC, Value.cells, pt, Value.oneCell', reduceIte, reduceCtorEq, Nat.reduceEqDiff, Nat.reduceAdd, Nat.reduceMul, Nat.reduceLT, Nat.reduceBEq, Nat.reduceLeDiff, Nat.reduceSub] -- r27
  refine ITri.seq ?_
  refine ITri.draw pok ?_; simp -implicitDefEqProofs (disch := first | decide | exact of_eq_true (eq_true rfl) | omega | assumption) only [hnn,  ↓vcD, vcE, ↓vcG, vcF, evs, evP, evB, intsOf, fillC, Value.cells, pt, Value.oneCell', reduceIte, reduceCtorEq, Nat.reduceEqDiff, Nat.reduceAdd, Nat.reduceMul, Nat.reduceLT, Nat.reduceBEq, Nat.reduceLeDiff, Nat.reduceSub] -- r28
  refine ⟨_, _, cloneI_f (xs := [1]) rfl rfl (by omega) (by omega), ?_⟩
  simp -implicitDefEqProofs (disch := first | decide | exact of_eq_true (eq_true rfl) | omega | assumption) only [hnn,  ↓vcD, vcE, ↓vcG, vcF, evs, evP, evB, intsOf, fillC, Value.cells, pt, Value.oneCell', reduceIte, reduceCtorEq, Nat.reduceEqDiff, Nat.reduceAdd, Nat.reduceMul, Nat.reduceLT, Nat.reduceBEq, Nat.reduceLeDiff, Nat.reduceSub]
  refine ITri.seq ?_
  refine ITri.seq ?_
  refine ITri.reg pok ?_; simp -implicitDefEqProofs (disch := first | decide | exact of_eq_true (eq_true rfl) | omega | assumption) only [ ↓vcD, vcE, ↓vcG, vcF, evs, evP, evB, intsOf, fillC, Value.cells, pt, Value.oneCell', reduceIte, reduceCtorEq, Nat.reduceEqDiff, Nat.reduceAdd, Nat.reduceMul, Nat.reduceLT, Nat.reduceBEq, Nat.reduceLeDiff, Nat.reduceSub] -- r29
  refine ITri.block ?_ -- 3
  refine ITri.loop (fun p : Nat × Value × Int × Bool => [(0, pt 5), (9, pt 10), (135, slO 19 1 openB), (136, .int .i64 1), (137, .int .i64 p.1)]) (fun _ => []) (fun p => Hp 3 (wM A B C D n m rc rt rcp life now (W + w) (pt 23) k p.2.1 p.2.2.1 p.2.2.2 (stT r now w))) (fun p => p = (0, .pointer none, since, b) ∨ p = (1, pt 10, now, true)) (fun p => 1 - p.1) (0, .pointer none, since, b) (.inl rfl) (Wk.sub ⟨rfl, rfl, rfl, rfl, rfl, trivial⟩) (fun p hp => ?_)
  refine ITri.seq ?_
  refine ITri.reg pok ?_; simp -implicitDefEqProofs (disch := first | decide | exact of_eq_true (eq_true rfl) | omega | assumption) only [ ↓vcD, vcE, ↓vcG, vcF, evs, evP, evB, intsOf, fillC, Value.cells, pt, Value.oneCell', reduceIte, reduceCtorEq, Nat.reduceEqDiff, Nat.reduceAdd, Nat.reduceMul, Nat.reduceLT, Nat.reduceBEq, Nat.reduceLeDiff, Nat.reduceSub] -- r30
  refine ITri.seq ?_
  rcases hp with rfl | rfl
  · refine ITri.cond (v := true) rfl (fun _ => ?_) (fun h => by cases h)
    refine ITri.skip ?_; simp only [SeqQ_normal, BlkQ_normal]
    refine ITri.seq ?_
    refine ITri.block ?_ -- 4
    refine ITri.seq ?_
    refine ITri.reg pok ?_; simp -implicitDefEqProofs (disch := first | decide | exact of_eq_true (eq_true rfl) | omega | assumption) only [ ↓vcD, vcE, ↓vcG, vcF, evs, evP, evB, intsOf, fillC, Value.cells, pt, Value.oneCell', reduceIte, reduceCtorEq, Nat.reduceEqDiff, Nat.reduceAdd, Nat.reduceMul, Nat.reduceLT, Nat.reduceBEq, Nat.reduceLeDiff, Nat.reduceSub] -- r31
    refine ITri.seq ?_
    refine ITri.reg pok ?_; simp -implicitDefEqProofs (disch := first | decide | exact of_eq_true (eq_true rfl) | omega | assumption) only [hnn,  ↓vcD, vcE, ↓vcG, vcF, evs, evP, evB, intsOf, fillC, Value.cells, pt, Value.oneCell', reduceIte, reduceCtorEq, Nat.reduceEqDiff, Nat.reduceAdd, Nat.reduceMul, Nat.reduceLT, Nat.reduceBEq, Nat.reduceLeDiff, Nat.reduceSub] -- r32
    refine ITri.reg pok ?_; simp -implicitDefEqProofs (disch := first | decide | exact of_eq_true (eq_true rfl) | omega | assumption) only [hnn,  ↓vcD, vcE, ↓vcG, vcF, evs, evP, evB, intsOf, fillC, Value.cells, pt, Value.oneCell', reduceIte, reduceCtorEq, Nat.reduceEqDiff, Nat.reduceAdd, Nat.reduceMul, Nat.reduceLT, Nat.reduceBEq, Nat.reduceLeDiff, Nat.reduceSub] -- r33
    refine gen_mapUC (h' := Hp 3 (wM A B C D n m rc rt rcp life now (W + w) (pt 23) k (pt 10) now true (stT r now w))) rfl rfl rfl (by cases b <;> kernel_rfl) ?_
    try simp -implicitDefEqProofs (disch := first | decide | exact of_eq_true (eq_true rfl) | omega | assumption) only [ ↓vcD, vcE, ↓vcG, vcF, evs, evP, evB, intsOf, fillC, Value.cells, pt, Value.oneCell', reduceIte, reduceCtorEq, Nat.reduceEqDiff, Nat.reduceAdd, Nat.reduceMul, Nat.reduceLT, Nat.reduceBEq, Nat.reduceLeDiff, Nat.reduceSub]
    refine ITri.reg pok ?_; simp -implicitDefEqProofs (disch := first | decide | exact of_eq_true (eq_true rfl) | omega | assumption) only [ ↓vcD, vcE, ↓vcG, vcF, evs, evP, evB, intsOf, fillC, Value.cells, pt, Value.oneCell', reduceIte, reduceCtorEq, Nat.reduceEqDiff, Nat.reduceAdd, Nat.reduceMul, Nat.reduceLT, Nat.reduceBEq, Nat.reduceLeDiff, Nat.reduceSub] -- r34
    exact LoopQ.next (1, pt 10, now, true) (.inr rfl) (by simp) (Wk.sub ⟨rfl, rfl, rfl, rfl, rfl, trivial⟩)
  · refine ITri.cond (v := false) rfl (fun h => by cases h) (fun _ => ?_)
    refine ITri.exit ?_; try simp -implicitDefEqProofs (disch := first | decide | exact of_eq_true (eq_true rfl) | omega | assumption) only [ ↓vcD, vcE, ↓vcG, vcF, evs, evP, evB, intsOf, fillC, Value.cells, pt, Value.oneCell', reduceIte, reduceCtorEq, Nat.reduceEqDiff, Nat.reduceAdd, Nat.reduceMul, Nat.reduceLT, Nat.reduceBEq, Nat.reduceLeDiff, Nat.reduceSub]
    refine ITri.seq ?_
    refine ITri.reg pok ?_; simp -implicitDefEqProofs (disch := first | decide | exact of_eq_true (eq_true rfl) | omega | assumption) only [ ↓vcD, vcE, ↓vcG, vcF, evs, evP, evB, intsOf, fillC, Value.cells, pt, Value.oneCell', reduceIte, reduceCtorEq, Nat.reduceEqDiff, Nat.reduceAdd, Nat.reduceMul, Nat.reduceLT, Nat.reduceBEq, Nat.reduceLeDiff, Nat.reduceSub] -- r35
    refine ITri.ret ?_; exact EndX.mk (by simp) (by rfl) (by rfl) (by rfl)
theorem start_worn (hrc : rc.length = n) (hrt : rt.length = m) (hn : n ≤ 8) (hm : m ≤ 12) (hr : 0 ≤ r ∧ r < n) (hk : k < m) (hkr : (nth rt k).1 = r) (hrw : nth rc r.toNat = (5, w)) (hw : 0 ≤ w ∧ w ≤ 1000000) (hW : 0 ≤ W ∧ W ≤ 1000000) (hnow : 0 ≤ now ∧ now ≤ 1000000)
    (hl : life < W + w) (hbit : btI .and .i64 (shI .shr .i64 rcp r) 1 = 1) :
    Fc Try.prog 21 [pt 5, .int .i64 0, .int .i64 r, slO 17 1 1] (Hp 3 (wM A B C D n m rc rt rcp life now W (.pointer none) k (.pointer none) since b [some (cO [.int .i64 1] 1 false)])) (.int .i64 113)
      (Hp 3 (wM A B C D n m rc rt rcp life now W (.pointer none) k (.pointer none) since b [some (cO [.int .i64 1] 1 false), some (cO [pt 11] 1 false), some (cO [pt 11] 1 true), some (cO [.int .i64 5, .int .i64 w] 1 false)])) := by
  have hnn : ∀ a, (notNil (.pointer (some a)) = true) = True := fun a => eq_true rfl
  have hin : inT r 0 ((n : Int) - 1) = true := by
    unfold inT
    simp only [Bool.and_eq_true, decide_eq_true_eq]
    omega
  have h10 : ¬ ((1 : Int) > 10) := by decide
  refine Fc.introX fn21 (by simp) (fun _ => grow_hq (by simp) (by rfl)) ?_; simp only [argF]
  refine ITri.seq ?_
  refine ITri.reg pok ?_; simp -implicitDefEqProofs (disch := first | decide | exact of_eq_true (eq_true rfl) | omega | assumption) only [ ↓vcD, vcE, ↓vcG, vcF, evs, evP, evB, intsOf, fillC, Value.cells, pt, Value.oneCell', reduceIte, reduceCtorEq, Nat.reduceEqDiff, Nat.reduceAdd, Nat.reduceMul, Nat.reduceLT, Nat.reduceBEq, Nat.reduceLeDiff, Nat.reduceSub] -- r0
  refine ITri.seq ?_
  refine ITri.reg pok ?_; simp -implicitDefEqProofs (disch := first | decide | exact of_eq_true (eq_true rfl) | omega | assumption) only [ ↓vcD, vcE, ↓vcG, vcF, evs, evP, evB, intsOf, fillC, Value.cells, pt, Value.oneCell', reduceIte, reduceCtorEq, Nat.reduceEqDiff, Nat.reduceAdd, Nat.reduceMul, Nat.reduceLT, Nat.reduceBEq, Nat.reduceLeDiff, Nat.reduceSub] -- r1
  refine ⟨_, _, tool_f (i := 0) (q := 10) (by simp) rfl rfl rfl (by omega) (by omega) rfl, ?_⟩
  try simp -implicitDefEqProofs (disch := first | decide | exact of_eq_true (eq_true rfl) | omega | assumption) only [ ↓vcD, vcE, ↓vcG, vcF, evs, evP, evB, intsOf, fillC, Value.cells, pt, Value.oneCell', reduceIte, reduceCtorEq, Nat.reduceEqDiff, Nat.reduceAdd, Nat.reduceMul, Nat.reduceLT, Nat.reduceBEq, Nat.reduceLeDiff, Nat.reduceSub]
  refine ITri.seq ?_
  refine ITri.seq ?_
  refine ITri.reg pok ?_; simp -implicitDefEqProofs (disch := first | decide | exact of_eq_true (eq_true rfl) | omega | assumption) only [ ↓vcD, vcE, ↓vcG, vcF, evs, evP, evB, intsOf, fillC, Value.cells, pt, Value.oneCell', reduceIte, reduceCtorEq, Nat.reduceEqDiff, Nat.reduceAdd, Nat.reduceMul, Nat.reduceLT, Nat.reduceBEq, Nat.reduceLeDiff, Nat.reduceSub] -- r2
  refine ITri.cond (v := false) rfl (fun h => by cases h) (fun _ => ?_); refine ITri.skip ?_; simp only [SeqQ_normal, BlkQ_normal]
  refine ITri.seq ?_
  refine ITri.seq ?_
  refine ITri.reg pok ?_; simp -implicitDefEqProofs (disch := first | decide | exact of_eq_true (eq_true rfl) | omega | assumption) only [hnn,  ↓vcD, vcE, ↓vcG, vcF, evs, evP, evB, intsOf, fillC, Value.cells, pt, Value.oneCell', reduceIte, reduceCtorEq, Nat.reduceEqDiff, Nat.reduceAdd, Nat.reduceMul, Nat.reduceLT, Nat.reduceBEq, Nat.reduceLeDiff, Nat.reduceSub] -- r4
  refine ⟨_, _, in_f _ _ _ (sees0 rfl (of_decide_eq_true rfl)), ?_⟩
  simp -implicitDefEqProofs (disch := first | decide | exact of_eq_true (eq_true rfl) | omega | assumption) only [hin, Bool.not_true,  ↓vcD, vcE, ↓vcG, vcF, evs, evP, evB, intsOf, fillC, Value.cells, pt, Value.oneCell', reduceIte, reduceCtorEq, Nat.reduceEqDiff, Nat.reduceAdd, Nat.reduceMul, Nat.reduceLT, Nat.reduceBEq, Nat.reduceLeDiff, Nat.reduceSub]
  refine ITri.cond (v := false) rfl (fun h => by cases h) (fun _ => ?_); refine ITri.skip ?_; simp only [SeqQ_normal, BlkQ_normal]
  refine ITri.seq ?_
  refine ITri.reg pok ?_; simp -implicitDefEqProofs (disch := first | decide | exact of_eq_true (eq_true rfl) | omega | assumption) only [ ↓vcD, vcE, ↓vcG, vcF, evs, evP, evB, intsOf, fillC, Value.cells, pt, Value.oneCell', reduceIte, reduceCtorEq, Nat.reduceEqDiff, Nat.reduceAdd, Nat.reduceMul, Nat.reduceLT, Nat.reduceBEq, Nat.reduceLeDiff, Nat.reduceSub] -- r6
  refine ⟨_, _, gather1_f (i := 0) (q := 11) (by simp) rfl rfl rfl rfl (by omega) (by omega) rfl, ?_⟩
  try simp -implicitDefEqProofs (disch := first | decide | exact of_eq_true (eq_true rfl) | omega | assumption) only [ ↓vcD, vcE, ↓vcG, vcF, evs, evP, evB, intsOf, fillC, Value.cells, pt, Value.oneCell', reduceIte, reduceCtorEq, Nat.reduceEqDiff, Nat.reduceAdd, Nat.reduceMul, Nat.reduceLT, Nat.reduceBEq, Nat.reduceLeDiff, Nat.reduceSub]
  refine ITri.seq ?_
  refine ITri.block ?_ -- 0
  refine ITri.seq ?_
  refine ITri.reg pok ?_; simp -implicitDefEqProofs (disch := first | decide | exact of_eq_true (eq_true rfl) | omega | assumption) only [ ↓vcD, vcE, ↓vcG, vcF, evs, evP, evB, intsOf, fillC, Value.cells, pt, Value.oneCell', reduceIte, reduceCtorEq, Nat.reduceEqDiff, Nat.reduceAdd, Nat.reduceMul, Nat.reduceLT, Nat.reduceBEq, Nat.reduceLeDiff, Nat.reduceSub] -- r7
  refine ITri.cond (v := false) rfl (fun h => by cases h) (fun _ => ?_)
  refine ITri.seq ?_
  refine ITri.reg pok ?_; simp -implicitDefEqProofs (disch := first | decide | exact of_eq_true (eq_true rfl) | omega | assumption) only [hnn,  ↓vcD, vcE, ↓vcG, vcF, evs, evP, evB, intsOf, fillC, Value.cells, pt, Value.oneCell', reduceIte, reduceCtorEq, Nat.reduceEqDiff, Nat.reduceAdd, Nat.reduceMul, Nat.reduceLT, Nat.reduceBEq, Nat.reduceLeDiff, Nat.reduceSub] -- r9
  refine ITri.cond (v := false) rfl (fun h => by cases h) (fun _ => ?_)
  refine ITri.seq ?_
  refine ITri.reg pok ?_; simp -implicitDefEqProofs (disch := first | decide | exact of_eq_true (eq_true rfl) | omega | assumption) only [hnn,  ↓vcD, vcE, ↓vcG, vcF, evs, evP, evB, intsOf, fillC, Value.cells, pt, Value.oneCell', reduceIte, reduceCtorEq, Nat.reduceEqDiff, Nat.reduceAdd, Nat.reduceMul, Nat.reduceLT, Nat.reduceBEq, Nat.reduceLeDiff, Nat.reduceSub] -- r11
  refine gen_pnln rfl (by kernel_rfl) ?_
  try simp -implicitDefEqProofs (disch := first | decide | exact of_eq_true (eq_true rfl) | omega | assumption) only [ ↓vcD, vcE, ↓vcG, vcF, evs, evP, evB, intsOf, fillC, Value.cells, pt, Value.oneCell', reduceIte, reduceCtorEq, Nat.reduceEqDiff, Nat.reduceAdd, Nat.reduceMul, Nat.reduceLT, Nat.reduceBEq, Nat.reduceLeDiff, Nat.reduceSub]
  refine ITri.cond (v := false) rfl (fun h => by cases h) (fun _ => ?_)
  refine ITri.seq ?_
  refine ITri.reg pok ?_; simp -implicitDefEqProofs (disch := first | decide | exact of_eq_true (eq_true rfl) | omega | assumption) only [hnn,  ↓vcD, vcE, ↓vcG, vcF, evs, evP, evB, intsOf, fillC, Value.cells, pt, Value.oneCell', reduceIte, reduceCtorEq, Nat.reduceEqDiff, Nat.reduceAdd, Nat.reduceMul, Nat.reduceLT, Nat.reduceBEq, Nat.reduceLeDiff, Nat.reduceSub] -- r13
  refine ITri.cond (v := false) rfl (fun h => by cases h) (fun _ => ?_)
  refine ITri.seq ?_
  refine ITri.reg pok ?_; simp -implicitDefEqProofs (disch := first | decide | exact of_eq_true (eq_true rfl) | omega | assumption) only [hnn, hbit,  ↓vcD, vcE, ↓vcG, vcF, evs, evP, evB, intsOf, fillC, Value.cells, pt, Value.oneCell', reduceIte, reduceCtorEq, Nat.reduceEqDiff, Nat.reduceAdd, Nat.reduceMul, Nat.reduceLT, Nat.reduceBEq, Nat.reduceLeDiff, Nat.reduceSub] -- r15
  refine ITri.cond (v := false) rfl (fun h => by cases h) (fun _ => ?_); refine ITri.skip ?_; simp only [SeqQ_normal, BlkQ_normal]
  refine ITri.seq ?_
  refine ITri.seq ?_
  refine ITri.reg pok ?_; simp -implicitDefEqProofs (disch := first | decide | exact of_eq_true (eq_true rfl) | omega | assumption) only [ ↓vcD, vcE, ↓vcG, vcF, evs, evP, evB, intsOf, fillC, Value.cells, pt, Value.oneCell', reduceIte, reduceCtorEq, Nat.reduceEqDiff, Nat.reduceAdd, Nat.reduceMul, Nat.reduceLT, Nat.reduceBEq, Nat.reduceLeDiff, Nat.reduceSub] -- r17
  refine ITri.block ?_ -- 1
  refine ITri.loop (fun p : Nat => [(0, pt 5), (2, .int .i64 r), (3, slO 17 1 1), (9, pt 10), (11, slO 19 1 openB), (76, slO 19 1 openB), (77, .int .i64 1), (78, .int .i64 p)]) (fun _ => []) (fun _ => Hp 3 (wM A B C D n m rc rt rcp life now W (.pointer none) k (.pointer none) since b [some (cO [.int .i64 1] 1 false), some (cO [pt 11] 1 false), some (cO [pt 11] 1 true)])) (fun p => p ≤ 1) (fun p => 1 - p) 0 (by omega) (Wk.sub ⟨rfl, rfl, rfl, rfl, rfl, rfl, rfl, rfl, trivial⟩) (fun p hp => ?_)
  refine ITri.seq ?_
  refine ITri.reg pok ?_; simp -implicitDefEqProofs (disch := first | decide | exact of_eq_true (eq_true rfl) | omega | assumption) only [ ↓vcD, vcE, ↓vcG, vcF, evs, evP, evB, intsOf, fillC, Value.cells, pt, Value.oneCell', reduceIte, reduceCtorEq, Nat.reduceEqDiff, Nat.reduceAdd, Nat.reduceMul, Nat.reduceLT, Nat.reduceBEq, Nat.reduceLeDiff, Nat.reduceSub] -- r18
  refine ITri.seq ?_
  refine ITri.condD (by rfl) (fun h9 => ?_) (fun h9 => ?_) -- %79
  · obtain rfl : p = 0 := by omega
    refine ITri.skip ?_; simp only [SeqQ_normal, BlkQ_normal]
    refine ITri.seq ?_
    refine ITri.block ?_ -- 2
    refine ITri.seq ?_
    refine ITri.reg pok ?_; simp -implicitDefEqProofs (disch := first | decide | exact of_eq_true (eq_true rfl) | omega | assumption) only [ ↓vcD, vcE, ↓vcG, vcF, evs, evP, evB, intsOf, fillC, Value.cells, pt, Value.oneCell', reduceIte, reduceCtorEq, Nat.reduceEqDiff, Nat.reduceAdd, Nat.reduceMul, Nat.reduceLT, Nat.reduceBEq, Nat.reduceLeDiff, Nat.reduceSub] -- r19
    refine ITri.seq ?_
    refine ITri.reg pok ?_; simp -implicitDefEqProofs (disch := first | decide | exact of_eq_true (eq_true rfl) | omega | assumption) only [ ↓vcD, vcE, ↓vcG, vcF, evs, evP, evB, intsOf, fillC, Value.cells, pt, Value.oneCell', reduceIte, reduceCtorEq, Nat.reduceEqDiff, Nat.reduceAdd, Nat.reduceMul, Nat.reduceLT, Nat.reduceBEq, Nat.reduceLeDiff, Nat.reduceSub] -- r20
    have ht : takeC (rows eR rt) (k * 2) 2 = some [.int .i64 r, .int .i64 (nth rt k).2] := by
      rw [takeR (by omega), ← hkr]
      rfl
    refine ⟨_, _, ready_f (z3 := 2) (op3 := true) (rec := r) rfl rfl rfl hk (by omega) ht ?_, ?_⟩
    · rw [← hkr]; exact rows_get0 (f := eR) (by omega) (by omega)
    try simp -implicitDefEqProofs (disch := first | decide | exact of_eq_true (eq_true rfl) | omega | assumption) only [ ↓vcD, vcE, ↓vcG, vcF, evs, evP, evB, intsOf, fillC, Value.cells, pt, Value.oneCell', reduceIte, reduceCtorEq, Nat.reduceEqDiff, Nat.reduceAdd, Nat.reduceMul, Nat.reduceLT, Nat.reduceBEq, Nat.reduceLeDiff, Nat.reduceSub]
    refine ITri.seq ?_
    refine ITri.reg pok ?_; simp -implicitDefEqProofs (disch := first | decide | exact of_eq_true (eq_true rfl) | omega | assumption) only [ ↓vcD, vcE, ↓vcG, vcF, evs, evP, evB, intsOf, fillC, Value.cells, pt, Value.oneCell', reduceIte, reduceCtorEq, Nat.reduceEqDiff, Nat.reduceAdd, Nat.reduceMul, Nat.reduceLT, Nat.reduceBEq, Nat.reduceLeDiff, Nat.reduceSub] -- r21
    refine ITri.cond (v := false) rfl (fun h => by cases h) (fun _ => ?_); refine ITri.skip ?_; simp only [SeqQ_normal, BlkQ_normal]
    refine ITri.reg pok ?_; simp -implicitDefEqProofs (disch := first | decide | exact of_eq_true (eq_true rfl) | omega | assumption) only [ ↓vcD, vcE, ↓vcG, vcF, evs, evP, evB, intsOf, fillC, Value.cells, pt, Value.oneCell', reduceIte, reduceCtorEq, Nat.reduceEqDiff, Nat.reduceAdd, Nat.reduceMul, Nat.reduceLT, Nat.reduceBEq, Nat.reduceLeDiff, Nat.reduceSub] -- r23
    exact LoopQ.next 1 (by omega) (by omega) (Wk.sub ⟨rfl, rfl, rfl, rfl, rfl, rfl, rfl, rfl, trivial⟩)
  refine ITri.exit ?_; try simp -implicitDefEqProofs (disch := first | decide | exact of_eq_true (eq_true rfl) | omega | assumption) only [ ↓vcD, vcE, ↓vcG, vcF, evs, evP, evB, intsOf, fillC, Value.cells, pt, Value.oneCell', reduceIte, reduceCtorEq, Nat.reduceEqDiff, Nat.reduceAdd, Nat.reduceMul, Nat.reduceLT, Nat.reduceBEq, Nat.reduceLeDiff, Nat.reduceSub]
  have htr : takeC (rows eR rc) (r.toNat * 2) 2 = some [.int .i64 5, .int .i64 w] := by
    rw [takeR (by omega), hrw]
    rfl
  have hr0 := hr.1
  have hr1 := hr.2
  refine ITri.seq ?_
  refine ITri.reg pok ?_; simp -implicitDefEqProofs (disch := first | decide | exact of_eq_true (eq_true rfl) | omega | assumption) only [hnn, htr,  ↓vcD, vcE, ↓vcG, vcF, evs, evP, evB, intsOf, fillC, Value.cells, pt, Value.oneCell', reduceIte, reduceCtorEq, Nat.reduceEqDiff, Nat.reduceAdd, Nat.reduceMul, Nat.reduceLT, Nat.reduceBEq, Nat.reduceLeDiff, Nat.reduceSub] -- r24
  have hgt : W + w > life := by omega
  refine ITri.seq ?_
  refine ITri.seq ?_
  refine ITri.draw pok ?_; simp -implicitDefEqProofs (disch := first | decide | exact of_eq_true (eq_true rfl) | omega | assumption) only [hnn, hgt, decide_true,  ↓vcD, vcE, ↓vcG, vcF, evs, evP, evB, intsOf, fillC, Value.cells, pt, Value.oneCell', reduceIte, reduceCtorEq, Nat.reduceEqDiff, Nat.reduceAdd, Nat.reduceMul, Nat.reduceLT, Nat.reduceBEq, Nat.reduceLeDiff, Nat.reduceSub] -- r25
  refine ITri.cond (v := true) rfl (fun _ => ?_) (fun h => by cases h)
  refine ITri.seq ?_
  refine ITri.reg pok ?_; simp -implicitDefEqProofs (disch := first | decide | exact of_eq_true (eq_true rfl) | omega | assumption) only [ ↓vcD, vcE, ↓vcG, vcF, evs, evP, evB, intsOf, fillC, Value.cells, pt, Value.oneCell', reduceIte, reduceCtorEq, Nat.reduceEqDiff, Nat.reduceAdd, Nat.reduceMul, Nat.reduceLT, Nat.reduceBEq, Nat.reduceLeDiff, Nat.reduceSub]
  refine ITri.ret ?_; exact EndX.mk (by simp) (by rfl) (by rfl) (by rfl)
end
end Go.Proofs.Ythoigkgjidcklaa
