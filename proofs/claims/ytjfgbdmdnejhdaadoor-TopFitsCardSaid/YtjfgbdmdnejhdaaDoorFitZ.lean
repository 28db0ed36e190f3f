/-
  Chapter 10 at the top: the law TopFits, by names.
-/
import Derived.Test.YtjfgbdmdnejhdaaDoorFitZ1
set_option linter.unusedSimpArgs false
set_option linter.unusedVariables false
namespace Go.Proofs.YtjfgbdmdnejhdaaDoor
open Go.RowKit Go.Vm
set_option maxRecDepth 100000
structure LS where
  i : Nat
  M : List (Option AObj)
/-- What stands while the slices are looked at. -/
structure LI (tl th : Int) (tS nS gr S : List Int) (vs us : List Value) (m : Nat) (s : LS) : Prop where
  le : s.i ≤ m
  tg : s.M[3]? = some (some (.cells ⟨[.int .i64 tl, .int .i64 th], 1, false⟩))
  pr : s.M[4]? = some (some (.cells ⟨pairs tS nS m, 2, true⟩))
  xb : s.M[5]? = some (some (.cells ⟨.slice (some ⟨4, 0, none⟩) m openB :: vs, 1, false⟩))
  gd : s.M[6]? = some (some (.cells ⟨rows eY gr, 1, true⟩))
  sl : s.M[7]? = some (some (.cells ⟨rows eI S, 1, true⟩))
  pb : s.M[9]? = some (some (.cells ⟨sO 7 m :: us, 1, false⟩))
  sp : s.M[10]? = some (some (.cells ⟨specT tl th, 1, false⟩))
theorem LI.grow {tl th : Int} {tS nS gr S : List Int} {vs us : List Value} {m : Nat} {s : LS} (I : LI tl th tS nS gr S vs us m s) (hi : s.i < m) (x : Option AObj) : LI tl th tS nS gr S vs us m ⟨s.i + 1, s.M ++ [x]⟩ := by
  have hl := get_lt I.sp
  have up : ∀ j, j ≤ 10 → (s.M ++ [x])[j]? = s.M[j]? := fun j hj => List.getElem?_append_left (by omega)
  exact ⟨hi, (up 3 (by decide)).trans I.tg, (up 4 (by decide)).trans I.pr, (up 5 (by decide)).trans I.xb, (up 6 (by decide)).trans I.gd, (up 7 (by decide)).trans I.sl, (up 9 (by decide)).trans I.pb, (up 10 (by decide)).trans I.sp⟩
/- boule/bouletop.TopFits · slots 152 · names 0:c 1:length 2:target 3:c 4:length 5:target 7:x 8:e 9:grades 10:f 11:p 12:ok 13:s 14:i 15:w 16:g 17:e · results [6] -/
def ir3_r0 : IC := .reg [⟨some 3, none, false, .box (.t 0)⟩,
  ⟨some 5, none, false, .box (.t 2)⟩,
  ⟨some 6, none, false, .mv (.k (.bool false))⟩] (some [1, 3, 5])
def ir3_r1 : IC := .reg [⟨some 18, none, false, .fad 5 (.t 3)⟩,
  ⟨some 19, none, false, .fad 1 (.t 18)⟩,
  ⟨some 20, none, false, .ldc (.t 19)⟩,
  ⟨some 21, none, false, .cmp .gtr (.t 20) (.k (.int .i64 60))⟩,
  ⟨some 22, none, false, .mv (.t 21)⟩,
  ⟨some 23, some (22, false), false, .fad 0 (.t 5)⟩,
  ⟨some 24, some (22, false), false, .ldc (.t 23)⟩,
  ⟨some 25, some (22, false), false, .cmp .lss (.t 24) (.k (.int .i64 (-1000000000000000)))⟩,
  ⟨some 26, none, false, .pick (.t 22) (.k (.bool true)) (.t 25)⟩,
  ⟨some 27, none, false, .mv (.t 26)⟩,
  ⟨some 28, some (27, false), false, .fad 1 (.t 5)⟩,
  ⟨some 29, some (27, false), false, .ldc (.t 28)⟩,
  ⟨some 30, some (27, false), false, .cmp .gtr (.t 29) (.k (.int .i64 1000000000000000))⟩,
  ⟨some 31, none, false, .pick (.t 27) (.k (.bool true)) (.t 30)⟩] (some [1, 3, 5, 31])
def ir3_r2 : IC := .reg [⟨some 32, none, false, .call (.f 4) []⟩,
  ⟨some 6, none, false, .mv (.t 32)⟩] (some [6])
def ir3_1 : IC := .seq ir3_r2 .ret
def ir3_2 : IC := .cond (.t 31) ir3_1 .skip
def ir3_3 : IC := .seq ir3_r1 ir3_2
def ir3_r3 : IC := .reg [⟨some 34, none, false, .fad 0 (.t 3)⟩,
  ⟨some 35, none, false, .lda 5 (.t 34)⟩,
  ⟨some 36, none, false, .fad 5 (.t 3)⟩,
  ⟨some 37, none, false, .lda 5 (.t 36)⟩,
  ⟨some 38, none, false, .mv (.t 1)⟩,
  ⟨some 39, none, false, .call (.f 5) [(.t 35), (.t 37), (.t 38)]⟩,
  ⟨some 33, none, false, .mv (.t 39)⟩,
  ⟨some 40, none, false, .ext (.t 33) 0⟩,
  ⟨some 41, none, false, .ext (.t 33) 1⟩,
  ⟨some 7, none, false, .alloc [(.slice none 0 0), (.int .i64 0), (.int .i64 0), (.int .i64 0), (.int .i64 0), (.int .i64 0), (.int .i64 0), (.int .u8 0)]⟩,
  ⟨none, none, false, .st 8 (.t 7) (.t 40)⟩,
  ⟨some 8, none, false, .mv (.t 41)⟩] (some [1, 3, 5, 7, 8])
def ir3_r4 : IC := .reg [⟨some 43, none, false, .fad 0 (.t 3)⟩,
  ⟨some 44, none, false, .lda 5 (.t 43)⟩,
  ⟨some 45, none, false, .fad 5 (.t 3)⟩,
  ⟨some 46, none, false, .lda 5 (.t 45)⟩,
  ⟨some 47, none, false, .mv (.t 1)⟩,
  ⟨some 48, none, false, .lda 2 (.t 5)⟩,
  ⟨some 49, none, false, .call (.f 6) [(.t 44), (.t 46), (.t 47), (.t 48)]⟩,
  ⟨some 42, none, false, .mv (.t 49)⟩,
  ⟨some 50, none, false, .ext (.t 42) 0⟩,
  ⟨some 51, none, false, .ext (.t 42) 1⟩,
  ⟨some 9, none, false, .mv (.t 50)⟩,
  ⟨some 10, none, false, .mv (.t 51)⟩] (some [1, 3, 5, 7, 8, 9, 10])
def ir3_r5 : IC := .reg [⟨some 52, none, false, .mv (.t 8)⟩,
  ⟨some 53, none, false, .cmp .neq (.t 52) (.k (.int .i64 0))⟩,
  ⟨some 54, none, false, .mv (.t 53)⟩,
  ⟨some 55, some (54, false), false, .mv (.t 10)⟩,
  ⟨some 56, some (54, false), false, .cmp .neq (.t 55) (.k (.int .i64 0))⟩,
  ⟨some 57, none, false, .pick (.t 54) (.k (.bool true)) (.t 56)⟩] (some [1, 3, 5, 7, 9, 57])
def ir3_r6 : IC := .reg [⟨some 58, none, false, .mv (.t 9)⟩,
  ⟨some 59, none, false, .len (.t 58)⟩,
  ⟨some 60, none, false, .cmp .eql (.t 59) (.k (.int .i64 0))⟩,
  ⟨some 61, none, false, .mv (.t 60)⟩,
  ⟨some 62, some (61, true), false, .call (.f 4) []⟩,
  ⟨some 63, none, false, .pick (.t 61) (.t 62) (.k (.bool false))⟩,
  ⟨some 6, none, false, .mv (.t 63)⟩] (some [6])
def ir3_4 : IC := .seq ir3_r6 .ret
def ir3_5 : IC := .cond (.t 57) ir3_4 .skip
def ir3_6 : IC := .seq ir3_r5 ir3_5
def ir3_r7 : IC := .reg [⟨some 65, none, false, .lda 11 (.t 3)⟩,
  ⟨some 66, none, false, .mv (.t 1)⟩,
  ⟨some 67, none, false, .call (.f 7) [(.t 65), (.t 66)]⟩,
  ⟨some 64, none, false, .mv (.t 67)⟩,
  ⟨some 68, none, false, .ext (.t 64) 0⟩,
  ⟨some 69, none, false, .ext (.t 64) 1⟩,
  ⟨some 11, none, false, .alloc [(.slice none 0 0), (.slice none 0 0), (.int .i64 0), (.int .i64 0)]⟩,
  ⟨none, none, false, .st 4 (.t 11) (.t 68)⟩,
  ⟨some 12, none, false, .mv (.t 69)⟩] (some [5, 7, 9, 11, 12])
def ir3_r8 : IC := .reg [⟨some 70, none, false, .mv (.t 12)⟩,
  ⟨some 71, none, false, .not (.t 70)⟩,
  ⟨some 72, none, false, .mv (.t 71)⟩,
  ⟨some 73, some (72, false), false, .fad 0 (.t 11)⟩,
  ⟨some 74, some (72, false), false, .ldc (.t 73)⟩,
  ⟨some 75, some (72, false), false, .len (.t 74)⟩,
  ⟨some 76, some (72, false), false, .fad 0 (.t 7)⟩,
  ⟨some 77, some (72, false), false, .ldc (.t 76)⟩,
  ⟨some 78, some (72, false), false, .len (.t 77)⟩,
  ⟨some 79, some (72, false), false, .cmp .neq (.t 75) (.t 78)⟩,
  ⟨some 80, none, false, .pick (.t 72) (.k (.bool true)) (.t 79)⟩,
  ⟨some 81, none, false, .mv (.t 80)⟩,
  ⟨some 82, some (81, false), false, .mv (.t 9)⟩,
  ⟨some 83, some (81, false), false, .len (.t 82)⟩,
  ⟨some 84, some (81, false), false, .fad 0 (.t 7)⟩,
  ⟨some 85, some (81, false), false, .ldc (.t 84)⟩,
  ⟨some 86, some (81, false), false, .len (.t 85)⟩,
  ⟨some 87, some (81, false), false, .cmp .neq (.t 83) (.t 86)⟩,
  ⟨some 88, none, false, .pick (.t 81) (.k (.bool true)) (.t 87)⟩] (some [5, 7, 9, 11, 88])
def ir3_r9 : IC := .reg [⟨some 6, none, false, .mv (.k (.bool false))⟩] (some [6])
def ir3_7 : IC := .seq ir3_r9 .ret
def ir3_8 : IC := .cond (.t 88) ir3_7 .skip
def ir3_9 : IC := .seq ir3_r8 ir3_8
def ir3_r10 : IC := .reg [⟨some 89, none, false, .call (.f 8) []⟩,
  ⟨some 13, none, false, .alloc [(.int .i64 0), (.int .i64 0), (.int .i64 0), (.int .i64 0), (.int .i64 0), (.int .i64 0), (.int .i64 0), (.int .i64 0), (.int .i64 0), (.int .i64 0), (.int .i64 0), (.int .i64 0), (.int .u8 0)]⟩,
  ⟨none, none, false, .st 13 (.t 13) (.t 89)⟩] (some [5, 7, 9, 11, 13])
def ir3_r11 : IC := .reg [⟨some 90, none, false, .lda 2 (.t 5)⟩,
  ⟨some 91, none, false, .fad 0 (.t 13)⟩,
  ⟨some 92, none, false, .iada 6 2 (.t 91) (.k (.int .i64 3))⟩,
  ⟨none, none, false, .st 2 (.t 92) (.t 90)⟩] (some [5, 7, 9, 11, 13])
def ir3_r12 : IC := .reg [⟨some 14, none, false, .mv (.k (.int .i64 0))⟩] (some [5, 7, 9, 11, 13, 14])
def ir3_r13 : IC := .reg [⟨some 93, none, false, .mv (.t 14)⟩,
  ⟨some 94, none, false, .fad 0 (.t 7)⟩,
  ⟨some 95, none, false, .ldc (.t 94)⟩,
  ⟨some 96, none, false, .len (.t 95)⟩,
  ⟨some 97, none, false, .cmp .lss (.t 93) (.t 96)⟩] (some [5, 7, 9, 11, 13, 14, 97])
def ir3_10 : IC := .cond (.t 97) .skip (.exit 0)
def ir3_11 : IC := .seq ir3_r13 ir3_10
def ir3_r15 : IC := .reg [⟨some 100, none, false, .call (.f 9) []⟩,
  ⟨some 15, none, false, .alloc [(.int .i64 0), (.int .i64 0), (.int .i64 0), (.int .i64 0), (.int .i64 0), (.int .i64 0), (.int .i64 0), (.int .i64 0), (.int .i64 0), (.int .i64 0), (.int .i64 0), (.int .i64 0), (.int .u8 0), (.string ⟨#[]⟩), (.string ⟨#[]⟩), (.string ⟨#[]⟩), (.string ⟨#[]⟩), (.string ⟨#[]⟩), (.string ⟨#[]⟩)]⟩,
  ⟨none, none, false, .st 19 (.t 15) (.t 100)⟩] (some [5, 7, 9, 11, 13, 14, 15])
def ir3_r16 : IC := .reg [⟨some 101, none, false, .fad 0 (.t 7)⟩,
  ⟨some 102, none, false, .ldc (.t 101)⟩,
  ⟨some 103, none, false, .mv (.t 14)⟩,
  ⟨some 104, none, false, .iad 2 (.t 102) (.t 103)⟩,
  ⟨some 105, none, false, .lda 2 (.t 104)⟩,
  ⟨some 106, none, false, .fad 0 (.t 15)⟩,
  ⟨some 107, none, false, .iada 6 2 (.t 106) (.k (.int .i64 3))⟩,
  ⟨none, none, false, .st 2 (.t 107) (.t 105)⟩] (some [5, 7, 9, 11, 13, 14, 15])
def ir3_r17 : IC := .reg [⟨some 109, none, false, .lda 13 (.t 13)⟩,
  ⟨some 110, none, false, .lda 19 (.t 15)⟩,
  ⟨some 111, none, false, .call (.f 10) [(.t 109), (.t 110)]⟩,
  ⟨some 108, none, false, .mv (.t 111)⟩,
  ⟨some 112, none, false, .ext (.t 108) 0⟩,
  ⟨some 113, none, false, .ext (.t 108) 1⟩,
  ⟨some 16, none, false, .mv (.t 112)⟩,
  ⟨some 17, none, false, .mv (.t 113)⟩] (some [5, 7, 9, 11, 13, 14, 16, 17])
def ir3_r18 : IC := .draw [(⟨some 114, none, false, .mv (.t 17)⟩, false, 0, 0),
  (⟨some 115, none, false, .cmp .neq (.t 114) (.k (.int .i64 0))⟩, false, 1, 0),
  (⟨some 116, none, false, .mv (.t 115)⟩, false, 3, 0),
  (⟨some 117, some (116, false), false, .mv (.t 16)⟩, false, 7, 0),
  (⟨some 118, some (116, false), false, .mv (.t 9)⟩, false, 7, 0),
  (⟨some 119, some (116, false), false, .mv (.t 14)⟩, false, 7, 0),
  (⟨some 120, some (116, false), false, .iad 1 (.t 118) (.t 119)⟩, false, 55, 0),
  (⟨some 121, some (116, false), false, .ldc (.t 120)⟩, true, 119, 0),
  (⟨some 122, some (116, false), false, .cmp .neq (.t 117) (.t 121)⟩, false, 255, 0),
  (⟨some 123, none, false, .pick (.t 116) (.k (.bool true)) (.t 122)⟩, false, 511, 0),
  (⟨some 124, none, false, .mv (.t 123)⟩, false, 1023, 0),
  (⟨some 125, some (124, false), false, .mv (.t 16)⟩, false, 2047, 0),
  (⟨some 126, some (124, false), false, .cmp .eql (.t 125) (.k (.int .u8 1))⟩, false, 4095, 0),
  (⟨some 127, some (124, false), false, .mv (.t 126)⟩, false, 8191, 0),
  (⟨some 128, some (127, true), false, .fad 0 (.t 11)⟩, false, 16383, 0),
  (⟨some 129, some (127, true), false, .ldc (.t 128)⟩, false, 32767, 1),
  (⟨some 130, some (127, true), false, .mv (.t 14)⟩, false, 16383, 0),
  (⟨some 131, some (127, true), false, .iad 1 (.t 129) (.t 130)⟩, false, 131071, 0),
  (⟨some 132, some (127, true), false, .ldc (.t 131)⟩, false, 262143, 1),
  (⟨some 133, some (127, true), false, .lda 2 (.t 5)⟩, false, 16383, 262144),
  (⟨some 134, some (127, true), false, .call (.f 11) [(.t 132), (.t 133)]⟩, true, 1048575, 0),
  (⟨some 135, some (127, true), false, .not (.t 134)⟩, false, 2097151, 0),
  (⟨some 136, some (124, false), false, .pick (.t 127) (.t 135) (.k (.bool false))⟩, false, 4194303, 0),
  (⟨some 137, none, false, .pick (.t 124) (.k (.bool true)) (.t 136)⟩, false, 8388607, 0),
  (⟨some 138, none, false, .mv (.t 137)⟩, false, 16777215, 0),
  (⟨some 139, some (138, false), false, .mv (.t 16)⟩, false, 33554431, 0),
  (⟨some 140, some (138, false), false, .cmp .eql (.t 139) (.k (.int .u8 3))⟩, false, 67108863, 0),
  (⟨some 141, some (138, false), false, .mv (.t 140)⟩, false, 134217727, 0),
  (⟨some 142, some (141, true), false, .fad 0 (.t 11)⟩, false, 268435455, 0),
  (⟨some 143, some (141, true), false, .ldc (.t 142)⟩, false, 536870911, 1),
  (⟨some 144, some (141, true), false, .mv (.t 14)⟩, false, 268435455, 0),
  (⟨some 145, some (141, true), false, .iad 1 (.t 143) (.t 144)⟩, false, 2147483647, 0),
  (⟨some 146, some (141, true), false, .ldc (.t 145)⟩, false, 4294967295, 1),
  (⟨some 147, some (141, true), false, .lda 2 (.t 5)⟩, false, 268435455, 4294967296),
  (⟨some 148, some (141, true), false, .call (.f 11) [(.t 146), (.t 147)]⟩, true, 17179869183, 0),
  (⟨some 149, some (138, false), false, .pick (.t 141) (.t 148) (.k (.bool false))⟩, false, 34359738367, 0),
  (⟨some 150, none, false, .pick (.t 138) (.k (.bool true)) (.t 149)⟩, false, 68719476735, 0)] (some [5, 7, 9, 11, 13, 14, 150])
def ir3_r19 : IC := .reg [⟨some 6, none, false, .mv (.k (.bool false))⟩] (some [6])
def ir3_12 : IC := .seq ir3_r19 .ret
def ir3_13 : IC := .cond (.t 150) ir3_12 .skip
def ir3_14 : IC := .seq ir3_r18 ir3_13
def ir3_15 : IC := .seq ir3_r17 ir3_14
def ir3_16 : IC := .seq ir3_r16 ir3_15
def ir3_17 : IC := .seq ir3_r15 ir3_16
def ir3_18 : IC := .block 1 ir3_17
def ir3_r14 : IC := .reg [⟨some 98, none, false, .mv (.t 14)⟩,
  ⟨some 99, none, false, .ar .add (.t 98) (.k (.int .i64 1))⟩,
  ⟨some 14, none, false, .mv (.t 99)⟩] (some [5, 7, 9, 11, 13, 14])
def ir3_19 : IC := .seq ir3_18 ir3_r14
def ir3_20 : IC := .seq ir3_11 ir3_19
def ir3_21 : IC := .loop ir3_20
def ir3_22 : IC := .block 0 ir3_21
def ir3_23 : IC := .seq ir3_r12 ir3_22
def ir3_r20 : IC := .reg [⟨some 151, none, false, .call (.f 4) []⟩,
  ⟨some 6, none, false, .mv (.t 151)⟩] (some [6])
def ir3_24 : IC := .seq ir3_r20 .ret
def ir3_25 : IC := .seq ir3_23 ir3_24
def ir3_26 : IC := .seq ir3_r11 ir3_25
def ir3_27 : IC := .seq ir3_r10 ir3_26
def ir3_28 : IC := .seq ir3_9 ir3_27
def ir3_29 : IC := .seq ir3_r7 ir3_28
def ir3_30 : IC := .seq ir3_6 ir3_29
def ir3_31 : IC := .seq ir3_r4 ir3_30
def ir3_32 : IC := .seq ir3_r3 ir3_31
def ir3_33 : IC := .seq ir3_3 ir3_32
def ir3_34 : IC := .seq ir3_r0 ir3_33
def ir3 : IC := ir3_34
theorem fn3 : FnIs Tryd.prog 3 ir3 152 [.tmp 6] := ⟨Tryd.f3, Tryd.f3.body.getD .skip, Tryd.func3, by kernel_rfl, by kernel_rfl, by kernel_rfl, by kernel_rfl⟩
section
variable {c : Wb} {len tl th : Int} {t : List Int} {nt : Nat}
/-- From the loop over the slices on. -/
theorem fits_loop {tS nS gr S : List Int} {vs us : List Value} {m : Nat} {M0 : List (Option AObj)} (I0 : LI tl th tS nS gr S vs us m ⟨0, M0⟩) (hm : m ≤ 2000) (hS : S.length = m) (hg : gr.length = m) (ht : tl ≤ th) (ot : okR tl th) (o : ∀ i, i < m → okR (nth tS i) (nth nS i)) (hgr : ∀ i, i < m → nth gr i = pgI tl th (nth tS i) (nth nS i))
    (hb : ∀ i, i < m → nth tS i ≤ nth S i ∧ nth S i ≤ nth nS i) :
    ITri Tryd.prog 152 none 2 ir3_25 [(5, pt 3), (7, pt 5), (9, .slice (some ⟨6, 0, none⟩) m openB), (11, pt 9), (13, pt 10)] [] (Hp 2 M0) (EndR Tryd.prog [.tmp 6] 2 [] (.bool true)) := by
  refine ITri.seq ?_
  refine ITri.seq ?_
  refine ITri.reg pok ?_; simp -implicitDefEqProofs (disch := first | decide | exact of_eq_true (eq_true rfl) | omega | assumption) only [ ↓vcD, vcE, ↓vcG, vcF, evs, evP, evB, intsOf, fillC, Value.cells, pt, Value.oneCell', reduceIte, reduceCtorEq, Nat.reduceEqDiff, Nat.reduceAdd, Nat.reduceMul, Nat.reduceLT, Nat.reduceBEq, Nat.reduceLeDiff, Nat.reduceSub] -- r12
  refine ITri.block ?_ -- 0
  refine ITri.loop (fun s : LS => [(5, pt 3), (7, pt 5), (9, .slice (some ⟨6, 0, none⟩) m openB), (11, pt 9), (13, pt 10), (14, .int .i64 s.i)]) (fun _ => []) (fun s => Hp 2 s.M) (LI tl th tS nS gr S vs us m) (fun s => m - s.i) ⟨0, M0⟩ I0 (Wk.sub ⟨rfl, rfl, rfl, rfl, rfl, rfl, trivial⟩) fun s I => ?_
  refine ITri.seq ?_
  refine ITri.seq ?_
  refine ITri.reg pok ?_; simp -implicitDefEqProofs (disch := first | decide | exact of_eq_true (eq_true rfl) | omega | assumption) only [I.xb,  ↓vcD, vcE, ↓vcG, vcF, evs, evP, evB, intsOf, fillC, Value.cells, pt, Value.oneCell', reduceIte, reduceCtorEq, Nat.reduceEqDiff, Nat.reduceAdd, Nat.reduceMul, Nat.reduceLT, Nat.reduceBEq, Nat.reduceLeDiff, Nat.reduceSub] -- r13
  refine ITri.condD (by rfl) (fun h5 => ?_) (fun h5 => ?_) -- %97
  · have hix : s.i < m := by omega
    have g1 := pairs_at tS nS m s.i hix
    have g2 := getY (xs := gr) (i := s.i) (by omega)
    have g3 := getI (xs := S) (i := s.i) (by omega)
    have hi1 : (s.i : Int) + 1 = ((s.i + 1 : Nat) : Int) := by omega
    have hl := get_lt I.sp
    have hl2 : 2 ≤ s.M.length := by omega
    have ow := o s.i hix
    have hb1 := hb s.i hix
    have hg1 := hgr s.i hix
    have J := I.grow hix (some (AObj.cells ⟨wafT (nth tS s.i) (nth nS s.i), 1, false⟩))
    obtain ⟨M1, hM1⟩ : ∃ M1, s.M ++ [some (AObj.cells ⟨wafT (nth tS s.i) (nth nS s.i), 1, false⟩)] = M1 := ⟨_, rfl⟩
    have q1 : M1[s.M.length]? = some (some (AObj.cells ⟨wafT (nth tS s.i) (nth nS s.i), 1, false⟩)) := by
      rw [← hM1, List.getElem?_append_right (Nat.le_refl _), Nat.sub_self]; rfl
    rw [hM1] at J
    have hl3 : 0 < M1.length := by rw [← hM1, List.length_append]; omega
    have hs1 : (Hp 2 M1).sees 0 = true := sees0 rfl hl3
    have hs0 : (Hp 2 s.M).sees 0 = true := sees0 rfl (by omega)
    have J3 := J.tg
    have J4 := J.pr
    have J5 := J.xb
    have J6 := J.gd
    have J7 := J.sl
    have J9 := J.pb
    have J10 := J.sp
    simp only at J3 J4 J5 J6 J7 J9 J10
    rw [hg1] at g2
    generalize nth tS s.i = a at *
    generalize nth nS s.i = b at *
    generalize nth S s.i = x at *
    have hgc := pg_cases (tl := tl) (th := th) ht hb1.1 hb1.2
    have hps := fun {h : AH} h0 => passes_f ot ow (h := h) h0
    generalize pgI tl th a b = g at *
    have lw : (wafT 0 0).length = 19 := rfl
    have ww : writeAt (wafT 0 0) 6 [.int .i64 a, .int .i64 b] = wafT a b := rfl
    refine ITri.skip ?_; simp only [SeqQ_normal, BlkQ_normal]
    refine ITri.seq ?_
    refine ITri.block ?_ -- 1
    refine ITri.seq ?_
    refine ITri.reg pok ?_; simp -implicitDefEqProofs (disch := first | decide | exact of_eq_true (eq_true rfl) | omega | assumption) only [ ↓vcD, vcE, ↓vcG, vcF, evs, evP, evB, intsOf, fillC, Value.cells, pt, Value.oneCell', reduceIte, reduceCtorEq, Nat.reduceEqDiff, Nat.reduceAdd, Nat.reduceMul, Nat.reduceLT, Nat.reduceBEq, Nat.reduceLeDiff, Nat.reduceSub] -- r15
    refine ⟨_, _, plain_f hs0, ?_⟩
    simp -implicitDefEqProofs (disch := first | decide | exact of_eq_true (eq_true rfl) | omega | assumption) only [apd_get, apd_get0, apd_set0, apd_set, List.length_append, List.append_assoc, Nat.add_assoc, hl2, lw,  ↓vcD, vcE, ↓vcG, vcF, evs, evP, evB, intsOf, fillC, Value.cells, pt, Value.oneCell', reduceIte, reduceCtorEq, Nat.reduceEqDiff, Nat.reduceAdd, Nat.reduceMul, Nat.reduceLT, Nat.reduceBEq, Nat.reduceLeDiff, Nat.reduceSub]
    refine ⟨rfl, ?_⟩
    refine ITri.seq ?_
    have lo5 : ∀ z, (s.M ++ z)[5]? = some (some (.cells ⟨.slice (some ⟨4, 0, none⟩) m openB :: vs, 1, false⟩)) := fun z => by rw [List.getElem?_append_left (by omega)]; exact I.xb
    have lo4 : ∀ z, (s.M ++ z)[4]? = some (some (.cells ⟨pairs tS nS m, 2, true⟩)) := fun z => by rw [List.getElem?_append_left (by omega)]; exact I.pr
    have i6 : Int.toNat 3 * 2 = 6 := rfl
    refine ITri.reg pok ?_; simp -implicitDefEqProofs (disch := first | decide | exact of_eq_true (eq_true rfl) | omega | assumption) only [lo5, lo4, g1, apd_get, apd_get0, apd_set0, apd_set, List.length_append, List.append_assoc, Nat.add_assoc, hl2, lw, i6, ww,  ↓vcD, vcE, ↓vcG, vcF, evs, evP, evB, intsOf, fillC, Value.cells, pt, Value.oneCell', reduceIte, reduceCtorEq, Nat.reduceEqDiff, Nat.reduceAdd, Nat.reduceMul, Nat.reduceLT, Nat.reduceBEq, Nat.reduceLeDiff, Nat.reduceSub] -- r16
    rw [hM1]
    refine ITri.seq ?_
    refine ITri.reg pok ?_; simp -implicitDefEqProofs (disch := first | decide | exact of_eq_true (eq_true rfl) | omega | assumption) only [J10, q1, @tk_spec tl th, @tk_waf a b,  ↓vcD, vcE, ↓vcG, vcF, evs, evP, evB, intsOf, fillC, Value.cells, pt, Value.oneCell', reduceIte, reduceCtorEq, Nat.reduceEqDiff, Nat.reduceAdd, Nat.reduceMul, Nat.reduceLT, Nat.reduceBEq, Nat.reduceLeDiff, Nat.reduceSub] -- r17
    refine ⟨_, _, hps hs1, ?_⟩
    try simp -implicitDefEqProofs (disch := first | decide | exact of_eq_true (eq_true rfl) | omega | assumption) only [ ↓vcD, vcE, ↓vcG, vcF, evs, evP, evB, intsOf, fillC, Value.cells, pt, Value.oneCell', reduceIte, reduceCtorEq, Nat.reduceEqDiff, Nat.reduceAdd, Nat.reduceMul, Nat.reduceLT, Nat.reduceBEq, Nat.reduceLeDiff, Nat.reduceSub]
    refine ITri.seq ?_
    have n31 : ¬ (3 : Int) = 1 := by decide
    have n13 : ¬ (1 : Int) = 3 := by decide
    have n21 : ¬ (2 : Int) = 1 := by decide
    have n23 : ¬ (2 : Int) = 3 := by decide
    rcases hgc with ⟨rfl, hw⟩ | rfl | ⟨rfl, hw⟩
    · refine ITri.draw pok ?_; simp -implicitDefEqProofs (disch := first | decide | exact of_eq_true (eq_true rfl) | omega | assumption) only [J6, J9, J7, J3, g2, g3, n31, n13, n21, n23, decide_true, decide_false,  ↓vcD, vcE, ↓vcG, vcF, evs, evP, evB, intsOf, fillC, Value.cells, pt, Value.oneCell', reduceIte, reduceCtorEq, Nat.reduceEqDiff, Nat.reduceAdd, Nat.reduceMul, Nat.reduceLT, Nat.reduceBEq, Nat.reduceLeDiff, Nat.reduceSub] -- r18
      refine ⟨_, _, win_f _ _ _ hs1, ?_⟩
      rw [hw]
      simp -implicitDefEqProofs (disch := first | decide | exact of_eq_true (eq_true rfl) | omega | assumption) only [n31, n13, n21, n23, Bool.not_true, decide_false,  ↓vcD, vcE, ↓vcG, vcF, evs, evP, evB, intsOf, fillC, Value.cells, pt, Value.oneCell', reduceIte, reduceCtorEq, Nat.reduceEqDiff, Nat.reduceAdd, Nat.reduceMul, Nat.reduceLT, Nat.reduceBEq, Nat.reduceLeDiff, Nat.reduceSub]
      refine ITri.cond (v := false) rfl (fun h => by cases h) (fun _ => ?_); refine ITri.skip ?_; simp only [SeqQ_normal, BlkQ_normal]
      refine ITri.reg pok ?_; simp -implicitDefEqProofs (disch := first | decide | exact of_eq_true (eq_true rfl) | omega | assumption) only [hi1,  ↓vcD, vcE, ↓vcG, vcF, evs, evP, evB, intsOf, fillC, Value.cells, pt, Value.oneCell', reduceIte, reduceCtorEq, Nat.reduceEqDiff, Nat.reduceAdd, Nat.reduceMul, Nat.reduceLT, Nat.reduceBEq, Nat.reduceLeDiff, Nat.reduceSub] -- r14
      exact LoopQ.next ⟨s.i + 1, M1⟩ J (by show m - (s.i + 1) < m - s.i; omega) (Wk.sub ⟨rfl, rfl, rfl, rfl, rfl, rfl, trivial⟩)
    · refine ITri.draw pok ?_; simp -implicitDefEqProofs (disch := first | decide | exact of_eq_true (eq_true rfl) | omega | assumption) only [J6, J9, J7, J3, g2, g3, n31, n13, n21, n23, decide_true, decide_false,  ↓vcD, vcE, ↓vcG, vcF, evs, evP, evB, intsOf, fillC, Value.cells, pt, Value.oneCell', reduceIte, reduceCtorEq, Nat.reduceEqDiff, Nat.reduceAdd, Nat.reduceMul, Nat.reduceLT, Nat.reduceBEq, Nat.reduceLeDiff, Nat.reduceSub] -- r18
      refine ITri.cond (v := false) rfl (fun h => by cases h) (fun _ => ?_); refine ITri.skip ?_; simp only [SeqQ_normal, BlkQ_normal]
      refine ITri.reg pok ?_; simp -implicitDefEqProofs (disch := first | decide | exact of_eq_true (eq_true rfl) | omega | assumption) only [hi1,  ↓vcD, vcE, ↓vcG, vcF, evs, evP, evB, intsOf, fillC, Value.cells, pt, Value.oneCell', reduceIte, reduceCtorEq, Nat.reduceEqDiff, Nat.reduceAdd, Nat.reduceMul, Nat.reduceLT, Nat.reduceBEq, Nat.reduceLeDiff, Nat.reduceSub] -- r14
      exact LoopQ.next ⟨s.i + 1, M1⟩ J (by show m - (s.i + 1) < m - s.i; omega) (Wk.sub ⟨rfl, rfl, rfl, rfl, rfl, rfl, trivial⟩)
    · refine ITri.draw pok ?_; simp -implicitDefEqProofs (disch := first | decide | exact of_eq_true (eq_true rfl) | omega | assumption) only [J6, J9, J7, J3, g2, g3, n31, n13, n21, n23, decide_true, decide_false,  ↓vcD, vcE, ↓vcG, vcF, evs, evP, evB, intsOf, fillC, Value.cells, pt, Value.oneCell', reduceIte, reduceCtorEq, Nat.reduceEqDiff, Nat.reduceAdd, Nat.reduceMul, Nat.reduceLT, Nat.reduceBEq, Nat.reduceLeDiff, Nat.reduceSub] -- r18
      refine ⟨_, _, win_f _ _ _ hs1, ?_⟩
      rw [hw]
      refine ITri.cond (v := false) rfl (fun h => by cases h) (fun _ => ?_); refine ITri.skip ?_; simp only [SeqQ_normal, BlkQ_normal]
      refine ITri.reg pok ?_; simp -implicitDefEqProofs (disch := first | decide | exact of_eq_true (eq_true rfl) | omega | assumption) only [hi1,  ↓vcD, vcE, ↓vcG, vcF, evs, evP, evB, intsOf, fillC, Value.cells, pt, Value.oneCell', reduceIte, reduceCtorEq, Nat.reduceEqDiff, Nat.reduceAdd, Nat.reduceMul, Nat.reduceLT, Nat.reduceBEq, Nat.reduceLeDiff, Nat.reduceSub] -- r14
      exact LoopQ.next ⟨s.i + 1, M1⟩ J (by show m - (s.i + 1) < m - s.i; omega) (Wk.sub ⟨rfl, rfl, rfl, rfl, rfl, rfl, trivial⟩)
  refine ITri.exit ?_; try simp -implicitDefEqProofs (disch := first | decide | exact of_eq_true (eq_true rfl) | omega | assumption) only [ ↓vcD, vcE, ↓vcG, vcF, evs, evP, evB, intsOf, fillC, Value.cells, pt, Value.oneCell', reduceIte, reduceCtorEq, Nat.reduceEqDiff, Nat.reduceAdd, Nat.reduceMul, Nat.reduceLT, Nat.reduceBEq, Nat.reduceLeDiff, Nat.reduceSub] -- exit 0
  refine ITri.seq ?_
  refine ITri.reg pok ?_; simp -implicitDefEqProofs (disch := first | decide | exact of_eq_true (eq_true rfl) | omega | assumption) only [ ↓vcD, vcE, ↓vcG, vcF, evs, evP, evB, intsOf, fillC, Value.cells, pt, Value.oneCell', reduceIte, reduceCtorEq, Nat.reduceEqDiff, Nat.reduceAdd, Nat.reduceMul, Nat.reduceLT, Nat.reduceBEq, Nat.reduceLeDiff, Nat.reduceSub] -- r20
  refine ⟨_, _, sold_f, ?_⟩
  try simp -implicitDefEqProofs (disch := first | decide | exact of_eq_true (eq_true rfl) | omega | assumption) only [ ↓vcD, vcE, ↓vcG, vcF, evs, evP, evB, intsOf, fillC, Value.cells, pt, Value.oneCell', reduceIte, reduceCtorEq, Nat.reduceEqDiff, Nat.reduceAdd, Nat.reduceMul, Nat.reduceLT, Nat.reduceBEq, Nat.reduceLeDiff, Nat.reduceSub]
  refine ITri.ret ?_; exact EndR.plain (by simp) (by rfl) (by rfl) (by rfl)
set_option maxHeartbeats 2000000 in
theorem fits_law (c : Wb) (len tl th : Int) (t : List Int) (nt ct : Nat) (hnt : t.length = nt) (ht : ∀ x ∈ t, 0 ≤ x ∧ x ≤ 255) :
    Fc Tryd.prog 3 [cutV c (s1 nt ct), .int .i64 len, rngV tl th] (H1 (rows eY t)) (.bool true) (H1 (rows eY t)) := by
  refine Fc.intro0 fn3 (by simp) rfl rfl ?_; simp only [argF]
  refine ITri.seq ?_
  refine ITri.reg pok ?_; simp -implicitDefEqProofs (disch := first | decide | exact of_eq_true (eq_true rfl) | omega | assumption) only [ ↓vcD, vcE, ↓vcG, vcF, evs, evP, evB, intsOf, fillC, Value.cells, pt, Value.oneCell', reduceIte, reduceCtorEq, Nat.reduceEqDiff, Nat.reduceAdd, Nat.reduceMul, Nat.reduceLT, Nat.reduceBEq, Nat.reduceLeDiff, Nat.reduceSub] -- r0
  refine ITri.seq ?_
  refine ITri.seq ?_
  by_cases c1 : c.g > 60
  · refine ITri.reg pok ?_; simp -implicitDefEqProofs (disch := first | decide | exact of_eq_true (eq_true rfl) | omega | assumption) only [c1, decide_true,  ↓vcD, vcE, ↓vcG, vcF, evs, evP, evB, intsOf, fillC, Value.cells, pt, Value.oneCell', reduceIte, reduceCtorEq, Nat.reduceEqDiff, Nat.reduceAdd, Nat.reduceMul, Nat.reduceLT, Nat.reduceBEq, Nat.reduceLeDiff, Nat.reduceSub] -- r1
    refine ITri.cond (v := true) rfl (fun _ => ?_) (fun h => by cases h)
    refine ITri.seq ?_
    refine ITri.reg pok ?_; simp -implicitDefEqProofs (disch := first | decide | exact of_eq_true (eq_true rfl) | omega | assumption) only [ ↓vcD, vcE, ↓vcG, vcF, evs, evP, evB, intsOf, fillC, Value.cells, pt, Value.oneCell', reduceIte, reduceCtorEq, Nat.reduceEqDiff, Nat.reduceAdd, Nat.reduceMul, Nat.reduceLT, Nat.reduceBEq, Nat.reduceLeDiff, Nat.reduceSub] -- r2
    refine ⟨_, _, sold_f, ?_⟩
    try simp -implicitDefEqProofs (disch := first | decide | exact of_eq_true (eq_true rfl) | omega | assumption) only [ ↓vcD, vcE, ↓vcG, vcF, evs, evP, evB, intsOf, fillC, Value.cells, pt, Value.oneCell', reduceIte, reduceCtorEq, Nat.reduceEqDiff, Nat.reduceAdd, Nat.reduceMul, Nat.reduceLT, Nat.reduceBEq, Nat.reduceLeDiff, Nat.reduceSub]
    refine ITri.ret ?_; exact EndR.plain (by simp) (by rfl) (by rfl) (by rfl)
  by_cases c2 : tl < -1000000000000000
  · refine ITri.reg pok ?_; simp -implicitDefEqProofs (disch := first | decide | exact of_eq_true (eq_true rfl) | omega | assumption) only [c1, c2, decide_true, decide_false,  ↓vcD, vcE, ↓vcG, vcF, evs, evP, evB, intsOf, fillC, Value.cells, pt, Value.oneCell', reduceIte, reduceCtorEq, Nat.reduceEqDiff, Nat.reduceAdd, Nat.reduceMul, Nat.reduceLT, Nat.reduceBEq, Nat.reduceLeDiff, Nat.reduceSub] -- r1
    refine ITri.cond (v := true) rfl (fun _ => ?_) (fun h => by cases h)
    refine ITri.seq ?_
    refine ITri.reg pok ?_; simp -implicitDefEqProofs (disch := first | decide | exact of_eq_true (eq_true rfl) | omega | assumption) only [ ↓vcD, vcE, ↓vcG, vcF, evs, evP, evB, intsOf, fillC, Value.cells, pt, Value.oneCell', reduceIte, reduceCtorEq, Nat.reduceEqDiff, Nat.reduceAdd, Nat.reduceMul, Nat.reduceLT, Nat.reduceBEq, Nat.reduceLeDiff, Nat.reduceSub] -- r2
    refine ⟨_, _, sold_f, ?_⟩
    try simp -implicitDefEqProofs (disch := first | decide | exact of_eq_true (eq_true rfl) | omega | assumption) only [ ↓vcD, vcE, ↓vcG, vcF, evs, evP, evB, intsOf, fillC, Value.cells, pt, Value.oneCell', reduceIte, reduceCtorEq, Nat.reduceEqDiff, Nat.reduceAdd, Nat.reduceMul, Nat.reduceLT, Nat.reduceBEq, Nat.reduceLeDiff, Nat.reduceSub]
    refine ITri.ret ?_; exact EndR.plain (by simp) (by rfl) (by rfl) (by rfl)
  by_cases c3 : th > 1000000000000000
  · refine ITri.reg pok ?_; simp -implicitDefEqProofs (disch := first | decide | exact of_eq_true (eq_true rfl) | omega | assumption) only [c1, c2, c3, decide_true, decide_false,  ↓vcD, vcE, ↓vcG, vcF, evs, evP, evB, intsOf, fillC, Value.cells, pt, Value.oneCell', reduceIte, reduceCtorEq, Nat.reduceEqDiff, Nat.reduceAdd, Nat.reduceMul, Nat.reduceLT, Nat.reduceBEq, Nat.reduceLeDiff, Nat.reduceSub] -- r1
    refine ITri.cond (v := true) rfl (fun _ => ?_) (fun h => by cases h)
    refine ITri.seq ?_
    refine ITri.reg pok ?_; simp -implicitDefEqProofs (disch := first | decide | exact of_eq_true (eq_true rfl) | omega | assumption) only [ ↓vcD, vcE, ↓vcG, vcF, evs, evP, evB, intsOf, fillC, Value.cells, pt, Value.oneCell', reduceIte, reduceCtorEq, Nat.reduceEqDiff, Nat.reduceAdd, Nat.reduceMul, Nat.reduceLT, Nat.reduceBEq, Nat.reduceLeDiff, Nat.reduceSub] -- r2
    refine ⟨_, _, sold_f, ?_⟩
    try simp -implicitDefEqProofs (disch := first | decide | exact of_eq_true (eq_true rfl) | omega | assumption) only [ ↓vcD, vcE, ↓vcG, vcF, evs, evP, evB, intsOf, fillC, Value.cells, pt, Value.oneCell', reduceIte, reduceCtorEq, Nat.reduceEqDiff, Nat.reduceAdd, Nat.reduceMul, Nat.reduceLT, Nat.reduceBEq, Nat.reduceLeDiff, Nat.reduceSub]
    refine ITri.ret ?_; exact EndR.plain (by simp) (by rfl) (by rfl) (by rfl)
  refine ITri.reg pok ?_; simp -implicitDefEqProofs (disch := first | decide | exact of_eq_true (eq_true rfl) | omega | assumption) only [c1, c2, c3, decide_false,  ↓vcD, vcE, ↓vcG, vcF, evs, evP, evB, intsOf, fillC, Value.cells, pt, Value.oneCell', reduceIte, reduceCtorEq, Nat.reduceEqDiff, Nat.reduceAdd, Nat.reduceMul, Nat.reduceLT, Nat.reduceBEq, Nat.reduceLeDiff, Nat.reduceSub] -- r1
  refine ITri.cond (v := false) rfl (fun h => by cases h) (fun _ => ?_); refine ITri.skip ?_; simp only [SeqQ_normal, BlkQ_normal]
  refine ITri.seq ?_
  by_cases hV : ckE c len = 0
  rotate_left
  · refine ITri.reg pok ?_; simp -implicitDefEqProofs (disch := first | decide | exact of_eq_true (eq_true rfl) | omega | assumption) only [ ↓vcD, vcE, ↓vcG, vcF, evs, evP, evB, intsOf, fillC, Value.cells, pt, Value.oneCell', reduceIte, reduceCtorEq, Nat.reduceEqDiff, Nat.reduceAdd, Nat.reduceMul, Nat.reduceLT, Nat.reduceBEq, Nat.reduceLeDiff, Nat.reduceSub] -- r3
    refine ⟨_, _, predictE_f rfl hV (sees0 rfl (of_decide_eq_true rfl)), ?_⟩
    simp -implicitDefEqProofs (disch := first | decide | exact of_eq_true (eq_true rfl) | omega | assumption) only [wr8d,  ↓vcD, vcE, ↓vcG, vcF, evs, evP, evB, intsOf, fillC, Value.cells, pt, Value.oneCell', reduceIte, reduceCtorEq, Nat.reduceEqDiff, Nat.reduceAdd, Nat.reduceMul, Nat.reduceLT, Nat.reduceBEq, Nat.reduceLeDiff, Nat.reduceSub]
    refine ITri.seq ?_
    refine ITri.reg pok ?_; simp -implicitDefEqProofs (disch := first | decide | exact of_eq_true (eq_true rfl) | omega | assumption) only [ ↓vcD, vcE, ↓vcG, vcF, evs, evP, evB, intsOf, fillC, Value.cells, pt, Value.oneCell', reduceIte, reduceCtorEq, Nat.reduceEqDiff, Nat.reduceAdd, Nat.reduceMul, Nat.reduceLT, Nat.reduceBEq, Nat.reduceLeDiff, Nat.reduceSub] -- r4
    refine ⟨_, _, judgeE_f rfl hV (sees0 rfl (of_decide_eq_true rfl)), ?_⟩
    try simp -implicitDefEqProofs (disch := first | decide | exact of_eq_true (eq_true rfl) | omega | assumption) only [ ↓vcD, vcE, ↓vcG, vcF, evs, evP, evB, intsOf, fillC, Value.cells, pt, Value.oneCell', reduceIte, reduceCtorEq, Nat.reduceEqDiff, Nat.reduceAdd, Nat.reduceMul, Nat.reduceLT, Nat.reduceBEq, Nat.reduceLeDiff, Nat.reduceSub]
    refine ITri.seq ?_
    refine ITri.seq ?_
    refine ITri.reg pok ?_; simp -implicitDefEqProofs (disch := first | decide | exact of_eq_true (eq_true rfl) | omega | assumption) only [hV, decide_false, Bool.not_false,  ↓vcD, vcE, ↓vcG, vcF, evs, evP, evB, intsOf, fillC, Value.cells, pt, Value.oneCell', reduceIte, reduceCtorEq, Nat.reduceEqDiff, Nat.reduceAdd, Nat.reduceMul, Nat.reduceLT, Nat.reduceBEq, Nat.reduceLeDiff, Nat.reduceSub] -- r5
    refine ITri.cond (v := true) rfl (fun _ => ?_) (fun h => by cases h)
    refine ITri.seq ?_
    have z0 : (((0 : Nat) : Int) = 0) = True := eq_true rfl
    refine ITri.reg pok ?_; simp -implicitDefEqProofs (disch := first | decide | exact of_eq_true (eq_true rfl) | omega | assumption) only [z0, decide_true,  ↓vcD, vcE, ↓vcG, vcF, evs, evP, evB, intsOf, fillC, Value.cells, pt, Value.oneCell', reduceIte, reduceCtorEq, Nat.reduceEqDiff, Nat.reduceAdd, Nat.reduceMul, Nat.reduceLT, Nat.reduceBEq, Nat.reduceLeDiff, Nat.reduceSub] -- r6
    refine ⟨_, _, sold_f, ?_⟩
    try simp -implicitDefEqProofs (disch := first | decide | exact of_eq_true (eq_true rfl) | omega | assumption) only [ ↓vcD, vcE, ↓vcG, vcF, evs, evP, evB, intsOf, fillC, Value.cells, pt, Value.oneCell', reduceIte, reduceCtorEq, Nat.reduceEqDiff, Nat.reduceAdd, Nat.reduceMul, Nat.reduceLT, Nat.reduceBEq, Nat.reduceLeDiff, Nat.reduceSub]
    refine ITri.ret ?_; exact EndR.plain (by simp) (by rfl) (by rfl) (by rfl)
  have V := ckE_ok hV
  obtain ⟨a1, a2, a3, a4, a5, a6, a7, F⟩ := predict_f V hV
  have hu := usF_le V
  by_cases htt : tl ≤ th
  rotate_left
  · refine ITri.reg pok ?_; simp -implicitDefEqProofs (disch := first | decide | exact of_eq_true (eq_true rfl) | omega | assumption) only [ ↓vcD, vcE, ↓vcG, vcF, evs, evP, evB, intsOf, fillC, Value.cells, pt, Value.oneCell', reduceIte, reduceCtorEq, Nat.reduceEqDiff, Nat.reduceAdd, Nat.reduceMul, Nat.reduceLT, Nat.reduceBEq, Nat.reduceLeDiff, Nat.reduceSub] -- r3
    refine ⟨_, _, F _ (sees0 rfl (of_decide_eq_true rfl)), ?_⟩
    simp -implicitDefEqProofs (disch := first | decide | exact of_eq_true (eq_true rfl) | omega | assumption) only [news_c, news_n, wr8d,  ↓vcD, vcE, ↓vcG, vcF, evs, evP, evB, intsOf, fillC, Value.cells, pt, Value.oneCell', reduceIte, reduceCtorEq, Nat.reduceEqDiff, Nat.reduceAdd, Nat.reduceMul, Nat.reduceLT, Nat.reduceBEq, Nat.reduceLeDiff, Nat.reduceSub]
    refine ITri.seq ?_
    refine ITri.reg pok ?_; simp -implicitDefEqProofs (disch := first | decide | exact of_eq_true (eq_true rfl) | omega | assumption) only [ ↓vcD, vcE, ↓vcG, vcF, evs, evP, evB, intsOf, fillC, Value.cells, pt, Value.oneCell', reduceIte, reduceCtorEq, Nat.reduceEqDiff, Nat.reduceAdd, Nat.reduceMul, Nat.reduceLT, Nat.reduceBEq, Nat.reduceLeDiff, Nat.reduceSub] -- r4
    refine ⟨_, _, judgeX_f V hV (by omega) (sees0 rfl (of_decide_eq_true rfl)), ?_⟩
    try simp -implicitDefEqProofs (disch := first | decide | exact of_eq_true (eq_true rfl) | omega | assumption) only [ ↓vcD, vcE, ↓vcG, vcF, evs, evP, evB, intsOf, fillC, Value.cells, pt, Value.oneCell', reduceIte, reduceCtorEq, Nat.reduceEqDiff, Nat.reduceAdd, Nat.reduceMul, Nat.reduceLT, Nat.reduceBEq, Nat.reduceLeDiff, Nat.reduceSub]
    refine ITri.seq ?_
    refine ITri.seq ?_
    have n20 : ¬ (2 : Int) = 0 := by decide
    refine ITri.reg pok ?_; simp -implicitDefEqProofs (disch := first | decide | exact of_eq_true (eq_true rfl) | omega | assumption) only [n20, decide_true, decide_false, Bool.not_true, Bool.not_false,  ↓vcD, vcE, ↓vcG, vcF, evs, evP, evB, intsOf, fillC, Value.cells, pt, Value.oneCell', reduceIte, reduceCtorEq, Nat.reduceEqDiff, Nat.reduceAdd, Nat.reduceMul, Nat.reduceLT, Nat.reduceBEq, Nat.reduceLeDiff, Nat.reduceSub] -- r5
    refine ITri.cond (v := true) rfl (fun _ => ?_) (fun h => by cases h)
    refine ITri.seq ?_
    have z0 : (((0 : Nat) : Int) = 0) = True := eq_true rfl
    refine ITri.reg pok ?_; simp -implicitDefEqProofs (disch := first | decide | exact of_eq_true (eq_true rfl) | omega | assumption) only [z0, decide_true,  ↓vcD, vcE, ↓vcG, vcF, evs, evP, evB, intsOf, fillC, Value.cells, pt, Value.oneCell', reduceIte, reduceCtorEq, Nat.reduceEqDiff, Nat.reduceAdd, Nat.reduceMul, Nat.reduceLT, Nat.reduceBEq, Nat.reduceLeDiff, Nat.reduceSub] -- r6
    refine ⟨_, _, sold_f, ?_⟩
    try simp -implicitDefEqProofs (disch := first | decide | exact of_eq_true (eq_true rfl) | omega | assumption) only [ ↓vcD, vcE, ↓vcG, vcF, evs, evP, evB, intsOf, fillC, Value.cells, pt, Value.oneCell', reduceIte, reduceCtorEq, Nat.reduceEqDiff, Nat.reduceAdd, Nat.reduceMul, Nat.reduceLT, Nat.reduceBEq, Nat.reduceLeDiff, Nat.reduceSub]
    refine ITri.ret ?_; exact EndR.plain (by simp) (by rfl) (by rfl) (by rfl)
  have ot : okR tl th := ⟨by omega, htt, by omega⟩
  obtain ⟨n, hn⟩ : ∃ n, usF c len = n := ⟨_, rfl⟩
  have C := true_ok V ht
  have hJ := fun {h : AH} h0 => judge_f V hV htt (h := h) h0
  have hFo := fun {h : AH} {s : Value} h0 r => followed_f (c := c) (len := len) (t := t) (nt := nt) (n := n) hnt ht V hV hn (h := h) (s := s) h0 r
  have b1 := fun i hi => SF_bd V (thick_ok V) rfl (i := i) hi
  have b2 := fun i hi => SF_bd V (thin_ok V) rfl (i := i) hi
  have bb := fun i hi => between V C (i := i) hi
  have e1 := SFn_len c len (d0F c t) (wsF c t (usF c len)) (ssF c t (usF c len)) rfl
  rw [hn] at F hJ b1 b2 bb e1
  obtain ⟨m, hm⟩ : ∃ m, n - 1 = m := ⟨_, rfl⟩
  rw [hm] at F hJ b1 b2 bb e1
  have hgl := grL_len tl th (tkS c len) (tnS c len) m
  have hgn := fun i hi => grL_nth tl th (tkS c len) (tnS c len) m i hi
  generalize hgg : grL tl th (tkS c len) (tnS c len) m = gr at *
  have b1 : ∀ i, i < m → 0 ≤ nth (tkS c len) i ∧ nth (tkS c len) i ≤ 10000000 := fun i hi => by
    have := b1 i hi
    unfold tkS
    rw [hn]
    exact this
  have b2 : ∀ i, i < m → 0 ≤ nth (tnS c len) i ∧ nth (tnS c len) i ≤ 10000000 := fun i hi => by
    have := b2 i hi
    unfold tnS
    rw [hn]
    exact this
  have bb : ∀ i, i < m → nth (tkS c len) i ≤ nth (SF c len (d0F c t) (wsF c t n) (ssF c t n) n) i ∧ nth (SF c len (d0F c t) (wsF c t n) (ssF c t n) n) i ≤ nth (tnS c len) i := fun i hi => by
    have := bb i hi
    unfold tkS tnS
    rw [hn]
    exact this
  generalize tkS c len = tS at *
  generalize tnS c len = nS at *
  generalize hSS : SF c len (d0F c t) (wsF c t n) (ssF c t n) n = S at *
  generalize min c.st len = top at *
  generalize restF c len (d0F c t) (wsF c t n) (ssF c t n) n = re at *
  generalize KF c len (d0F c t) (wsF c t n) (ssF c t n) n = K at *
  rw [e1] at hFo
  refine ITri.reg pok ?_; simp -implicitDefEqProofs (disch := first | decide | exact of_eq_true (eq_true rfl) | omega | assumption) only [ ↓vcD, vcE, ↓vcG, vcF, evs, evP, evB, intsOf, fillC, Value.cells, pt, Value.oneCell', reduceIte, reduceCtorEq, Nat.reduceEqDiff, Nat.reduceAdd, Nat.reduceMul, Nat.reduceLT, Nat.reduceBEq, Nat.reduceLeDiff, Nat.reduceSub] -- r3
  refine ⟨_, _, F _ (sees0 rfl (of_decide_eq_true rfl)), ?_⟩
  simp -implicitDefEqProofs (disch := first | decide | exact of_eq_true (eq_true rfl) | omega | assumption) only [news_c, news_n, wr8d,  ↓vcD, vcE, ↓vcG, vcF, evs, evP, evB, intsOf, fillC, Value.cells, pt, Value.oneCell', reduceIte, reduceCtorEq, Nat.reduceEqDiff, Nat.reduceAdd, Nat.reduceMul, Nat.reduceLT, Nat.reduceBEq, Nat.reduceLeDiff, Nat.reduceSub]
  refine ITri.seq ?_
  refine ITri.reg pok ?_; simp -implicitDefEqProofs (disch := first | decide | exact of_eq_true (eq_true rfl) | omega | assumption) only [ ↓vcD, vcE, ↓vcG, vcF, evs, evP, evB, intsOf, fillC, Value.cells, pt, Value.oneCell', reduceIte, reduceCtorEq, Nat.reduceEqDiff, Nat.reduceAdd, Nat.reduceMul, Nat.reduceLT, Nat.reduceBEq, Nat.reduceLeDiff, Nat.reduceSub] -- r4
  refine ⟨_, _, hJ (sees0 rfl (of_decide_eq_true rfl)), ?_⟩
  simp -implicitDefEqProofs (disch := first | decide | exact of_eq_true (eq_true rfl) | omega | assumption) only [news_c, news_n,  ↓vcD, vcE, ↓vcG, vcF, evs, evP, evB, intsOf, fillC, Value.cells, pt, Value.oneCell', reduceIte, reduceCtorEq, Nat.reduceEqDiff, Nat.reduceAdd, Nat.reduceMul, Nat.reduceLT, Nat.reduceBEq, Nat.reduceLeDiff, Nat.reduceSub]
  refine ITri.seq ?_
  refine ITri.seq ?_
  refine ITri.reg pok ?_; simp -implicitDefEqProofs (disch := first | decide | exact of_eq_true (eq_true rfl) | omega | assumption) only [decide_true, Bool.not_true,  ↓vcD, vcE, ↓vcG, vcF, evs, evP, evB, intsOf, fillC, Value.cells, pt, Value.oneCell', reduceIte, reduceCtorEq, Nat.reduceEqDiff, Nat.reduceAdd, Nat.reduceMul, Nat.reduceLT, Nat.reduceBEq, Nat.reduceLeDiff, Nat.reduceSub] -- r5
  refine ITri.cond (v := false) rfl (fun h => by cases h) (fun _ => ?_); refine ITri.skip ?_; simp only [SeqQ_normal, BlkQ_normal]
  refine ITri.seq ?_
  refine ITri.reg pok ?_; simp -implicitDefEqProofs (disch := first | decide | exact of_eq_true (eq_true rfl) | omega | assumption) only [ ↓vcD, vcE, ↓vcG, vcF, evs, evP, evB, intsOf, fillC, Value.cells, pt, Value.oneCell', reduceIte, reduceCtorEq, Nat.reduceEqDiff, Nat.reduceAdd, Nat.reduceMul, Nat.reduceLT, Nat.reduceBEq, Nat.reduceLeDiff, Nat.reduceSub] -- r7
  refine ⟨_, _, hFo (sees0 rfl (of_decide_eq_true rfl)) (Rd.hq rfl rfl), ?_⟩
  simp -implicitDefEqProofs (disch := first | decide | exact of_eq_true (eq_true rfl) | omega | assumption) only [news_c, news_n, wr44,  ↓vcD, vcE, ↓vcG, vcF, evs, evP, evB, intsOf, fillC, Value.cells, pt, Value.oneCell', reduceIte, reduceCtorEq, Nat.reduceEqDiff, Nat.reduceAdd, Nat.reduceMul, Nat.reduceLT, Nat.reduceBEq, Nat.reduceLeDiff, Nat.reduceSub]
  refine ITri.seq ?_
  refine ITri.seq ?_
  refine ITri.reg pok ?_; simp -implicitDefEqProofs (disch := first | decide | exact of_eq_true (eq_true rfl) | omega | assumption) only [decide_true, Bool.not_true,  ↓vcD, vcE, ↓vcG, vcF, evs, evP, evB, intsOf, fillC, Value.cells, pt, Value.oneCell', reduceIte, reduceCtorEq, Nat.reduceEqDiff, Nat.reduceAdd, Nat.reduceMul, Nat.reduceLT, Nat.reduceBEq, Nat.reduceLeDiff, Nat.reduceSub] -- r8
  refine ITri.cond (v := false) rfl (fun h => by cases h) (fun _ => ?_); refine ITri.skip ?_; simp only [SeqQ_normal, BlkQ_normal]
  refine ITri.seq ?_
  refine ITri.reg pok ?_; simp -implicitDefEqProofs (disch := first | decide | exact of_eq_true (eq_true rfl) | omega | assumption) only [ ↓vcD, vcE, ↓vcG, vcF, evs, evP, evB, intsOf, fillC, Value.cells, pt, Value.oneCell', reduceIte, reduceCtorEq, Nat.reduceEqDiff, Nat.reduceAdd, Nat.reduceMul, Nat.reduceLT, Nat.reduceBEq, Nat.reduceLeDiff, Nat.reduceSub] -- r10
  refine ⟨_, _, open_f (sees0 rfl (of_decide_eq_true rfl)), ?_⟩
  try simp -implicitDefEqProofs (disch := first | decide | exact of_eq_true (eq_true rfl) | omega | assumption) only [ ↓vcD, vcE, ↓vcG, vcF, evs, evP, evB, intsOf, fillC, Value.cells, pt, Value.oneCell', reduceIte, reduceCtorEq, Nat.reduceEqDiff, Nat.reduceAdd, Nat.reduceMul, Nat.reduceLT, Nat.reduceBEq, Nat.reduceLeDiff, Nat.reduceSub]
  refine ⟨rfl, ?_⟩
  have ls : (specT (-1000000000000000) 1000000000000000).length = 13 := rfl
  have ws : writeAt (specT (-1000000000000000) 1000000000000000) 6 [.int .i64 tl, .int .i64 th] = specT tl th := rfl
  have i6 : Int.toNat 3 * 2 = 6 := rfl
  refine ITri.seq ?_
  refine ITri.reg pok ?_; simp -implicitDefEqProofs (disch := first | decide | exact of_eq_true (eq_true rfl) | omega | assumption) only [ls, i6, ws,  ↓vcD, vcE, ↓vcG, vcF, evs, evP, evB, intsOf, fillC, Value.cells, pt, Value.oneCell', reduceIte, reduceCtorEq, Nat.reduceEqDiff, Nat.reduceAdd, Nat.reduceMul, Nat.reduceLT, Nat.reduceBEq, Nat.reduceLeDiff, Nat.reduceSub] -- r11
  refine fits_loop (tS := tS) (nS := nS) (gr := gr) (S := S) (m := m) (vs := [.int .i64 a1, .int .i64 a2, .int .i64 a3, .int .i64 a4, .int .i64 a5, .int .i64 a6, .int .u8 a7]) (us := [sO 8 n, .int .i64 top, .int .i64 re]) ⟨Nat.zero_le _, rfl, rfl, rfl, rfl, rfl, rfl, rfl⟩ ?_ e1 hgl htt ot (fun i hi => ?_) (fun i hi => ?_) bb
  · omega
  · have x1 := b1 i hi
    have x2 := b2 i hi
    have x3 := bb i hi
    exact ⟨by omega, by omega, by omega⟩
  · have x3 := bb i hi
    rw [hgn i hi]
    exact gr_eq htt (by omega)
end
end Go.Proofs.YtjfgbdmdnejhdaaDoor
