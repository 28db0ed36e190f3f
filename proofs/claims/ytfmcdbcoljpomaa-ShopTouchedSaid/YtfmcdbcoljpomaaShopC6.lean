/-
  Chapter 11, by names: ref.Taint.
-/
import Derived.Test.YtfmcdbcoljpomaaShopD1
import Derived.Test.YtfmcdbcoljpomaaShopC5
set_option linter.unusedSimpArgs false
set_option linter.unusedVariables false
namespace Go.Proofs.Ytfmcdbcoljpomaa
open Go.RowKit Go.Vm
set_option maxRecDepth 100000
/- boule/bouleref11.Taint · slots 140 · names 0:l 1:lots 2:tools 3:bad 4:since 5:l 6:lots 7:tools 8:bad 9:since 13:e 14:a 15:b 16:i 17:i 18:begun 19:i 20:x · results [10, 11, 12] -/
def ir21_r0 : IC := .reg [⟨some 10, none, false, .mv (.k (.slice none 0 0))⟩,
  ⟨some 11, none, false, .mv (.k (.slice none 0 0))⟩,
  ⟨some 12, none, false, .mv (.k (.int .i64 0))⟩] (some [0, 1, 2, 3, 4])
def ir21_r1 : IC := .reg [⟨some 21, none, false, .mv (.t 0)⟩,
  ⟨some 22, none, false, .mv (.t 1)⟩,
  ⟨some 23, none, false, .mv (.t 2)⟩,
  ⟨some 24, none, false, .mv (.t 3)⟩,
  ⟨some 25, none, false, .mv (.t 4)⟩,
  ⟨some 26, none, false, .call (.f 61) [(.t 21), (.t 22), (.t 23), (.t 24), (.t 25)]⟩,
  ⟨some 13, none, false, .mv (.t 26)⟩] (some [0, 1, 2, 3, 4, 13])
def ir21_r2 : IC := .reg [⟨some 27, none, false, .mv (.t 13)⟩,
  ⟨some 28, none, false, .cmp .neq (.t 27) (.k (.int .i64 0))⟩] (some [0, 1, 2, 3, 4, 13, 28])
def ir21_r3 : IC := .reg [⟨some 29, none, false, .mv (.t 13)⟩,
  ⟨some 10, none, false, .mv (.k (.slice none 0 0))⟩,
  ⟨some 11, none, false, .mv (.k (.slice none 0 0))⟩,
  ⟨some 12, none, false, .mv (.t 29)⟩] (some [10, 11, 12])
def ir21_1 : IC := .seq ir21_r3 .ret
def ir21_2 : IC := .cond (.t 28) ir21_1 .skip
def ir21_3 : IC := .seq ir21_r2 ir21_2
def ir21_4 : IC := .seq ir21_r1 ir21_3
def ir21_r4 : IC := .reg [⟨some 30, none, false, .bsl 1 0 [] []⟩,
  ⟨some 31, none, false, .bsl 1 0 [] []⟩,
  ⟨some 14, none, false, .mv (.t 30)⟩,
  ⟨some 15, none, false, .mv (.t 31)⟩] (some [0, 1, 2, 3, 4, 14, 15])
def ir21_r5 : IC := .reg [⟨some 16, none, false, .mv (.k (.int .i64 0))⟩] (some [0, 1, 2, 3, 4, 14, 15, 16])
def ir21_r6 : IC := .reg [⟨some 32, none, false, .mv (.t 16)⟩,
  ⟨some 33, none, false, .mv (.t 1)⟩,
  ⟨some 34, none, false, .cmp .lss (.t 32) (.t 33)⟩] (some [0, 1, 2, 3, 4, 14, 15, 16, 34])
def ir21_5 : IC := .cond (.t 34) .skip (.exit 0)
def ir21_6 : IC := .seq ir21_r6 ir21_5
def ir21_r8 : IC := .reg [⟨some 37, none, false, .mv (.t 14)⟩,
  ⟨some 38, none, false, .bsl 1 1 [(.int .i64 0)] [(0, (.k (.int .i64 (-1))))]⟩,
  ⟨some 39, none, false, .app 1 8 (.t 37) (.t 38)⟩,
  ⟨some 14, none, false, .mv (.t 39)⟩] (some [0, 1, 2, 3, 4, 14, 15, 16])
def ir21_7 : IC := .block 1 ir21_r8
def ir21_r7 : IC := .reg [⟨some 35, none, false, .mv (.t 16)⟩,
  ⟨some 36, none, false, .ar .add (.t 35) (.k (.int .i64 1))⟩,
  ⟨some 16, none, false, .mv (.t 36)⟩] (some [0, 1, 2, 3, 4, 14, 15, 16])
def ir21_8 : IC := .seq ir21_7 ir21_r7
def ir21_9 : IC := .seq ir21_6 ir21_8
def ir21_10 : IC := .loop ir21_9
def ir21_11 : IC := .block 0 ir21_10
def ir21_12 : IC := .seq ir21_r5 ir21_11
def ir21_r9 : IC := .reg [⟨some 17, none, false, .mv (.k (.int .i64 0))⟩] (some [0, 2, 3, 4, 14, 15, 17])
def ir21_r10 : IC := .reg [⟨some 40, none, false, .mv (.t 17)⟩,
  ⟨some 41, none, false, .mv (.t 2)⟩,
  ⟨some 42, none, false, .cmp .lss (.t 40) (.t 41)⟩] (some [0, 2, 3, 4, 14, 15, 17, 42])
def ir21_13 : IC := .cond (.t 42) .skip (.exit 2)
def ir21_14 : IC := .seq ir21_r10 ir21_13
def ir21_r12 : IC := .reg [⟨some 45, none, false, .mv (.t 15)⟩,
  ⟨some 46, none, false, .bsl 1 1 [(.int .i64 0)] [(0, (.k (.int .i64 (-1))))]⟩,
  ⟨some 47, none, false, .app 1 8 (.t 45) (.t 46)⟩,
  ⟨some 15, none, false, .mv (.t 47)⟩] (some [0, 2, 3, 4, 14, 15, 17])
def ir21_15 : IC := .block 3 ir21_r12
def ir21_r11 : IC := .reg [⟨some 43, none, false, .mv (.t 17)⟩,
  ⟨some 44, none, false, .ar .add (.t 43) (.k (.int .i64 1))⟩,
  ⟨some 17, none, false, .mv (.t 44)⟩] (some [0, 2, 3, 4, 14, 15, 17])
def ir21_16 : IC := .seq ir21_15 ir21_r11
def ir21_17 : IC := .seq ir21_14 ir21_16
def ir21_18 : IC := .loop ir21_17
def ir21_19 : IC := .block 2 ir21_18
def ir21_20 : IC := .seq ir21_r9 ir21_19
def ir21_r13 : IC := .reg [⟨some 18, none, false, .mv (.k (.bool false))⟩] (some [0, 3, 4, 14, 15, 18])
def ir21_r14 : IC := .reg [⟨some 19, none, false, .mv (.k (.int .i64 0))⟩] (some [0, 3, 4, 14, 15, 18, 19])
def ir21_r15 : IC := .reg [⟨some 48, none, false, .mv (.t 19)⟩,
  ⟨some 49, none, false, .mv (.t 0)⟩,
  ⟨some 50, none, false, .len (.t 49)⟩,
  ⟨some 51, none, false, .cmp .leq (.t 48) (.t 50)⟩] (some [0, 3, 4, 14, 15, 18, 19, 51])
def ir21_21 : IC := .cond (.t 51) .skip (.exit 4)
def ir21_22 : IC := .seq ir21_r15 ir21_21
def ir21_r17 : IC := .reg [⟨some 54, none, false, .mv (.t 18)⟩,
  ⟨some 55, none, false, .not (.t 54)⟩,
  ⟨some 56, none, false, .mv (.t 55)⟩,
  ⟨some 57, some (56, true), false, .mv (.t 19)⟩,
  ⟨some 58, some (56, true), false, .mv (.t 0)⟩,
  ⟨some 59, some (56, true), false, .len (.t 58)⟩,
  ⟨some 60, some (56, true), false, .cmp .eql (.t 57) (.t 59)⟩,
  ⟨some 61, some (56, true), false, .mv (.t 60)⟩,
  ⟨some 62, some (61, false), false, .mv (.t 0)⟩,
  ⟨some 63, some (61, false), false, .mv (.t 19)⟩,
  ⟨some 64, some (61, false), false, .iad 3 (.t 62) (.t 63)⟩,
  ⟨some 65, some (61, false), false, .fad 0 (.t 64)⟩,
  ⟨some 66, some (61, false), false, .ldc (.t 65)⟩,
  ⟨some 67, some (61, false), false, .mv (.t 4)⟩,
  ⟨some 68, some (61, false), false, .cmp .geq (.t 66) (.t 67)⟩,
  ⟨some 69, some (56, true), false, .pick (.t 61) (.k (.bool true)) (.t 68)⟩,
  ⟨some 70, none, false, .pick (.t 56) (.t 69) (.k (.bool false))⟩] (some [0, 3, 4, 14, 15, 18, 19, 70])
def ir21_r18 : IC := .reg [⟨some 18, none, false, .mv (.k (.bool true))⟩] (some [0, 3, 4, 14, 15, 18, 19])
def ir21_r19 : IC := .reg [⟨some 71, none, false, .mv (.t 15)⟩,
  ⟨some 72, none, false, .mv (.t 3)⟩,
  ⟨some 73, none, false, .iad 1 (.t 71) (.t 72)⟩,
  ⟨some 74, none, false, .ldc (.t 73)⟩,
  ⟨some 75, none, false, .cmp .lss (.t 74) (.k (.int .i64 0))⟩] (some [0, 3, 4, 14, 15, 18, 19, 75])
def ir21_r20 : IC := .reg [⟨some 76, none, false, .mv (.t 15)⟩,
  ⟨some 77, none, false, .mv (.t 3)⟩,
  ⟨some 78, none, false, .mv (.t 4)⟩,
  ⟨some 79, none, false, .iad 1 (.t 76) (.t 77)⟩,
  ⟨none, none, false, .st 1 (.t 79) (.t 78)⟩] (some [0, 3, 4, 14, 15, 18, 19])
def ir21_23 : IC := .cond (.t 75) ir21_r20 .skip
def ir21_24 : IC := .seq ir21_r19 ir21_23
def ir21_25 : IC := .seq ir21_r18 ir21_24
def ir21_26 : IC := .cond (.t 70) ir21_25 .skip
def ir21_27 : IC := .seq ir21_r17 ir21_26
def ir21_r21 : IC := .reg [⟨some 80, none, false, .mv (.t 19)⟩,
  ⟨some 81, none, false, .mv (.t 0)⟩,
  ⟨some 82, none, false, .len (.t 81)⟩,
  ⟨some 83, none, false, .cmp .eql (.t 80) (.t 82)⟩] (some [0, 3, 4, 14, 15, 18, 19, 83])
def ir21_28 : IC := .cond (.t 83) (.exit 4) .skip
def ir21_29 : IC := .seq ir21_r21 ir21_28
def ir21_r22 : IC := .reg [⟨some 84, none, false, .mv (.t 0)⟩,
  ⟨some 85, none, false, .mv (.t 19)⟩,
  ⟨some 86, none, false, .iad 3 (.t 84) (.t 85)⟩,
  ⟨some 87, none, false, .lda 3 (.t 86)⟩,
  ⟨some 20, none, false, .alloc [(.int .i64 0), (.int .i64 0), (.int .i64 0)]⟩,
  ⟨none, none, false, .st 3 (.t 20) (.t 87)⟩] (some [0, 3, 4, 14, 15, 18, 19, 20])
def ir21_r23 : IC := .reg [⟨some 89, none, false, .fad 1 (.t 20)⟩,
  ⟨some 90, none, false, .ldc (.t 89)⟩,
  ⟨some 91, none, false, .cmp .lss (.t 90) (.k (.int .i64 0))⟩,
  ⟨some 88, none, false, .mv (.t 91)⟩] (some [0, 3, 4, 14, 15, 18, 19, 20, 88])
def ir21_r24 : IC := .reg [⟨some 92, none, false, .mv (.t 15)⟩,
  ⟨some 93, none, false, .fad 2 (.t 20)⟩,
  ⟨some 94, none, false, .ldc (.t 93)⟩,
  ⟨some 95, none, false, .iad 1 (.t 92) (.t 94)⟩,
  ⟨none, none, false, .st 1 (.t 95) (.k (.int .i64 (-1)))⟩] (some [0, 3, 4, 14, 15, 18, 19])
def ir21_r25 : IC := .reg [⟨some 97, none, false, .mv (.t 15)⟩,
  ⟨some 98, none, false, .fad 2 (.t 20)⟩,
  ⟨some 99, none, false, .ldc (.t 98)⟩,
  ⟨some 100, none, false, .iad 1 (.t 97) (.t 99)⟩,
  ⟨some 101, none, false, .ldc (.t 100)⟩,
  ⟨some 102, none, false, .cmp .geq (.t 101) (.k (.int .i64 0))⟩,
  ⟨some 103, none, false, .mv (.t 102)⟩,
  ⟨some 104, some (103, true), false, .mv (.t 14)⟩,
  ⟨some 105, some (103, true), false, .fad 1 (.t 20)⟩,
  ⟨some 106, some (103, true), false, .ldc (.t 105)⟩,
  ⟨some 107, some (103, true), false, .iad 1 (.t 104) (.t 106)⟩,
  ⟨some 108, some (103, true), false, .ldc (.t 107)⟩,
  ⟨some 109, some (103, true), false, .cmp .lss (.t 108) (.k (.int .i64 0))⟩,
  ⟨some 110, none, false, .pick (.t 103) (.t 109) (.k (.bool false))⟩,
  ⟨some 96, none, false, .mv (.t 110)⟩] (some [0, 3, 4, 14, 15, 18, 19, 20, 96])
def ir21_r26 : IC := .reg [⟨some 111, none, false, .mv (.t 14)⟩,
  ⟨some 112, none, false, .fad 1 (.t 20)⟩,
  ⟨some 113, none, false, .ldc (.t 112)⟩,
  ⟨some 114, none, false, .fad 0 (.t 20)⟩,
  ⟨some 115, none, false, .ldc (.t 114)⟩,
  ⟨some 116, none, false, .iad 1 (.t 111) (.t 113)⟩,
  ⟨none, none, false, .st 1 (.t 116) (.t 115)⟩] (some [0, 3, 4, 14, 15, 18, 19])
def ir21_r27 : IC := .reg [⟨some 118, none, false, .mv (.t 15)⟩,
  ⟨some 119, none, false, .fad 2 (.t 20)⟩,
  ⟨some 120, none, false, .ldc (.t 119)⟩,
  ⟨some 121, none, false, .iad 1 (.t 118) (.t 120)⟩,
  ⟨some 122, none, false, .ldc (.t 121)⟩,
  ⟨some 123, none, false, .cmp .lss (.t 122) (.k (.int .i64 0))⟩,
  ⟨some 124, none, false, .mv (.t 123)⟩,
  ⟨some 125, some (124, true), false, .mv (.t 14)⟩,
  ⟨some 126, some (124, true), false, .fad 1 (.t 20)⟩,
  ⟨some 127, some (124, true), false, .ldc (.t 126)⟩,
  ⟨some 128, some (124, true), false, .iad 1 (.t 125) (.t 127)⟩,
  ⟨some 129, some (124, true), false, .ldc (.t 128)⟩,
  ⟨some 130, some (124, true), false, .cmp .geq (.t 129) (.k (.int .i64 0))⟩,
  ⟨some 131, none, false, .pick (.t 124) (.t 130) (.k (.bool false))⟩,
  ⟨some 117, none, false, .mv (.t 131)⟩] (some [0, 3, 4, 14, 15, 18, 19, 20, 117])
def ir21_r28 : IC := .reg [⟨some 132, none, false, .mv (.t 15)⟩,
  ⟨some 133, none, false, .fad 2 (.t 20)⟩,
  ⟨some 134, none, false, .ldc (.t 133)⟩,
  ⟨some 135, none, false, .fad 0 (.t 20)⟩,
  ⟨some 136, none, false, .ldc (.t 135)⟩,
  ⟨some 137, none, false, .iad 1 (.t 132) (.t 134)⟩,
  ⟨none, none, false, .st 1 (.t 137) (.t 136)⟩] (some [0, 3, 4, 14, 15, 18, 19])
def ir21_30 : IC := .cond (.t 117) ir21_r28 .skip
def ir21_31 : IC := .seq ir21_r27 ir21_30
def ir21_32 : IC := .cond (.t 96) ir21_r26 ir21_31
def ir21_33 : IC := .seq ir21_r25 ir21_32
def ir21_34 : IC := .cond (.t 88) ir21_r24 ir21_33
def ir21_35 : IC := .seq ir21_r23 ir21_34
def ir21_36 : IC := .block 6 ir21_35
def ir21_37 : IC := .seq ir21_r22 ir21_36
def ir21_38 : IC := .seq ir21_29 ir21_37
def ir21_39 : IC := .seq ir21_27 ir21_38
def ir21_40 : IC := .block 5 ir21_39
def ir21_r16 : IC := .reg [⟨some 52, none, false, .mv (.t 19)⟩,
  ⟨some 53, none, false, .ar .add (.t 52) (.k (.int .i64 1))⟩,
  ⟨some 19, none, false, .mv (.t 53)⟩] (some [0, 3, 4, 14, 15, 18, 19])
def ir21_41 : IC := .seq ir21_40 ir21_r16
def ir21_42 : IC := .seq ir21_22 ir21_41
def ir21_43 : IC := .loop ir21_42
def ir21_44 : IC := .block 4 ir21_43
def ir21_45 : IC := .seq ir21_r14 ir21_44
def ir21_r29 : IC := .reg [⟨some 138, none, false, .mv (.t 14)⟩,
  ⟨some 139, none, false, .mv (.t 15)⟩,
  ⟨some 10, none, false, .mv (.t 138)⟩,
  ⟨some 11, none, false, .mv (.t 139)⟩,
  ⟨some 12, none, false, .mv (.k (.int .i64 0))⟩] (some [10, 11, 12])
def ir21_46 : IC := .seq ir21_r29 .ret
def ir21_47 : IC := .seq ir21_45 ir21_46
def ir21_48 : IC := .seq ir21_r13 ir21_47
def ir21_49 : IC := .seq ir21_20 ir21_48
def ir21_50 : IC := .seq ir21_12 ir21_49
def ir21_51 : IC := .seq ir21_r4 ir21_50
def ir21_52 : IC := .seq ir21_4 ir21_51
def ir21_53 : IC := .seq ir21_r0 ir21_52
def ir21 : IC := ir21_53
theorem fn21 : FnIs Try.prog 21 ir21 140 [.tmp 10, .tmp 11, .tmp 12] := ⟨Try.f21, Try.f21.body.getD .skip, Try.func21, by kernel_rfl, by kernel_rfl, by kernel_rfl, by kernel_rfl⟩
theorem wr_eN {xs : List Int} {j : Nat} (v : Int) (h : j < xs.length) : writeAt (rows eN xs) j [.int .i64 v] = rows eN (xs.set j v) := by
  have := rows_set (f := eN) (j := 0) (x' := v) (v := .int .i64 v) (get_nth h) (by decide) rfl
  rw [Nat.mul_one, Nat.add_zero] at this
  rw [← this]
  exact writeAt_1 _ _ _ (by rw [rows_len, Nat.mul_one]; exact h)
theorem len_eN (xs : List Int) : (rows eN xs).length = xs.length := by rw [rows_len, Nat.mul_one]
abbrev tkM (l : List Tc) (a b : List Int) : AH := Hp 2 [none, some (.cells ⟨rows eC l, 0, false⟩), some (.cells ⟨rows eN a, 1, true⟩), some (.cells ⟨rows eN b, 1, true⟩)]
def tkB (l : List Tc) (p q r : Nat) (since : Int) (st k : Nat) : List Int × List Int := if st ≤ k then tnK l p q r since st k else (List.replicate p (-1), List.replicate q (-1))
def tkA (l : List Tc) (p q r : Nat) (since : Int) (st k : Nat) : List Int × List Int := if st < k then tnK l p q r since st k else (List.replicate p (-1), List.replicate q (-1))
theorem tkB_len (l : List Tc) (p q r : Nat) (since : Int) (st k : Nat) : (tkB l p q r since st k).1.length = p ∧ (tkB l p q r since st k).2.length = q := by
  unfold tkB tnK
  split
  · rw [fold_len.1, fold_len.2]; simp
  · simp
theorem tkA_lt {l : List Tc} {p q r : Nat} {since : Int} {st k : Nat} (h : k < st) : tkA l p q r since st k = tkB l p q r since st k := by
  unfold tkA tkB
  rw [if_neg (by omega), if_neg (by omega)]
theorem tkA_gt {l : List Tc} {p q r : Nat} {since : Int} {st k : Nat} (h : st < k) : tkA l p q r since st k = tkB l p q r since st k := by
  unfold tkA tkB
  rw [if_pos h, if_pos (by omega)]
theorem tkB_next {l : List Tc} {p q r : Nat} {since : Int} {st k : Nat} (hk : k < l.length) (hx : InB p q (nth l k)) : tkA l p q r since st (k + 1) = tnS (tkB l p q r since st k) (nth l k) := by
  unfold tkA tkB
  by_cases h : st ≤ k
  · rw [if_pos (by omega), if_pos h, tnK_next h hk]
  · rw [if_neg (by omega), if_neg h, tn_idle hx.l ⟨hx.t0, hx.t⟩]
theorem refTaint_c (n c p q r : Nat) (l : List Tc) (since : Int) (hl : l.length = n) (hb : n ≤ 1000000) (he : tcE l p q r since = 0) :
    Fc Try.prog 21 [.slice (some ⟨1, 0, none⟩) n c, .int .i64 p, .int .i64 q, .int .i64 r, .int .i64 since] (Hp 2 [none, some (.cells ⟨rows eC l, 0, false⟩)]) (.tuple #[.slice (some ⟨2, 0, none⟩) p openB, .slice (some ⟨3, 0, none⟩) q openB, .int .i64 0]) ((Hp 2 [none, some (.cells ⟨rows eC l, 0, false⟩)]).news [.cells ⟨rows eN (tnG l p q r since).1, 1, true⟩, .cells ⟨rows eN (tnG l p q r since).2, 1, true⟩]) := by
  refine Fc.introR fn21 (by simp) rfl rfl ?_; simp only [argF]
  refine ITri.seq ?_
  refine ITri.reg pokT ?_; simp -implicitDefEqProofs (disch := first | decide | exact of_eq_true (eq_true rfl) | omega | assumption) only [ ↓vcD, vcE, evs, evP, evB, intsOf, fillC, Value.cells, pt, List.append_nil, List.nil_append, List.cons_append, List.length_cons, List.length_nil, List.filter_nil, List.map_nil, ↓List.getElem?_cons_zero, ↓List.getElem?_cons_succ, List.getElem?_cons_zero, List.getElem?_cons_succ, List.set_cons_zero, List.set_cons_succ, Option.join_some, Option.join_none, Option.map_some, List.all_cons, List.all_nil, Value.oneCell', reduceIte, reduceCtorEq, Nat.reduceEqDiff, Nat.reduceAdd, Nat.reduceMul, Nat.reduceLT, Nat.reduceBEq, Nat.reduceLeDiff, Nat.reduceSub, List.size_toArray]
  refine ITri.seq ?_
  refine ITri.seq ?_
  refine ITri.reg pokT ?_; simp -implicitDefEqProofs (disch := first | decide | exact of_eq_true (eq_true rfl) | omega | assumption) only [ ↓vcD, vcE, evs, evP, evB, intsOf, fillC, Value.cells, pt, List.append_nil, List.nil_append, List.cons_append, List.length_cons, List.length_nil, List.filter_nil, List.map_nil, ↓List.getElem?_cons_zero, ↓List.getElem?_cons_succ, List.getElem?_cons_zero, List.getElem?_cons_succ, List.set_cons_zero, List.set_cons_succ, Option.join_some, Option.join_none, Option.map_some, List.all_cons, List.all_nil, Value.oneCell', reduceIte, reduceCtorEq, Nat.reduceEqDiff, Nat.reduceAdd, Nat.reduceMul, Nat.reduceLT, Nat.reduceBEq, Nat.reduceLeDiff, Nat.reduceSub, List.size_toArray]
  refine ⟨_, _, touches_f _ _ _ _ hl hb (sees0 rfl (of_decide_eq_true rfl)) (Rd.hq rfl rfl), ?_⟩
  rw [he]
  try simp -implicitDefEqProofs (disch := first | decide | exact of_eq_true (eq_true rfl) | omega | assumption) only [ ↓vcD, vcE, evs, evP, evB, intsOf, fillC, Value.cells, pt, List.append_nil, List.nil_append, List.cons_append, List.length_cons, List.length_nil, List.filter_nil, List.map_nil, ↓List.getElem?_cons_zero, ↓List.getElem?_cons_succ, List.getElem?_cons_zero, List.getElem?_cons_succ, List.set_cons_zero, List.set_cons_succ, Option.join_some, Option.join_none, Option.map_some, List.all_cons, List.all_nil, Value.oneCell', reduceIte, reduceCtorEq, Nat.reduceEqDiff, Nat.reduceAdd, Nat.reduceMul, Nat.reduceLT, Nat.reduceBEq, Nat.reduceLeDiff, Nat.reduceSub, List.size_toArray]
  refine ITri.seq ?_
  refine ITri.reg pokT ?_; simp -implicitDefEqProofs (disch := first | decide | exact of_eq_true (eq_true rfl) | omega | assumption) only [eq_self, not_true_eq_false, decide_false, decide_true, Bool.not_true,  ↓vcD, vcE, evs, evP, evB, intsOf, fillC, Value.cells, pt, List.append_nil, List.nil_append, List.cons_append, List.length_cons, List.length_nil, List.filter_nil, List.map_nil, ↓List.getElem?_cons_zero, ↓List.getElem?_cons_succ, List.getElem?_cons_zero, List.getElem?_cons_succ, List.set_cons_zero, List.set_cons_succ, Option.join_some, Option.join_none, Option.map_some, List.all_cons, List.all_nil, Value.oneCell', reduceIte, reduceCtorEq, Nat.reduceEqDiff, Nat.reduceAdd, Nat.reduceMul, Nat.reduceLT, Nat.reduceBEq, Nat.reduceLeDiff, Nat.reduceSub, List.size_toArray]
  refine ITri.cond (v := false) rfl (fun h => by cases h) (fun _ => ?_); refine ITri.skip ?_; simp only [SeqQ_normal, BlkQ_normal]
  refine ITri.seq ?_
  refine ITri.reg pokT ?_; simp -implicitDefEqProofs (disch := first | decide | exact of_eq_true (eq_true rfl) | omega | assumption) only [ ↓vcD, vcE, evs, evP, evB, intsOf, fillC, Value.cells, pt, List.append_nil, List.nil_append, List.cons_append, List.length_cons, List.length_nil, List.filter_nil, List.map_nil, ↓List.getElem?_cons_zero, ↓List.getElem?_cons_succ, List.getElem?_cons_zero, List.getElem?_cons_succ, List.set_cons_zero, List.set_cons_succ, Option.join_some, Option.join_none, Option.map_some, List.all_cons, List.all_nil, Value.oneCell', reduceIte, reduceCtorEq, Nat.reduceEqDiff, Nat.reduceAdd, Nat.reduceMul, Nat.reduceLT, Nat.reduceBEq, Nat.reduceLeDiff, Nat.reduceSub, List.size_toArray] -- r4
  refine ITri.seq ?_
  refine ITri.seq ?_
  refine ITri.reg pokT ?_; simp -implicitDefEqProofs (disch := first | decide | exact of_eq_true (eq_true rfl) | omega | assumption) only [ ↓vcD, vcE, evs, evP, evB, intsOf, fillC, Value.cells, pt, List.append_nil, List.nil_append, List.cons_append, List.length_cons, List.length_nil, List.filter_nil, List.map_nil, ↓List.getElem?_cons_zero, ↓List.getElem?_cons_succ, List.getElem?_cons_zero, List.getElem?_cons_succ, List.set_cons_zero, List.set_cons_succ, Option.join_some, Option.join_none, Option.map_some, List.all_cons, List.all_nil, Value.oneCell', reduceIte, reduceCtorEq, Nat.reduceEqDiff, Nat.reduceAdd, Nat.reduceMul, Nat.reduceLT, Nat.reduceBEq, Nat.reduceLeDiff, Nat.reduceSub, List.size_toArray] -- r5
  obtain ⟨hl5, bl, bt, bs, bb, hix, hsr⟩ := tc_ok he
  refine ITri.block ?_ -- 0
  refine ITri.loop (fun k : Nat => [(0, .slice (some ⟨1, 0, none⟩) n c), (1, .int .i64 p), (2, .int .i64 q), (3, .int .i64 r), (4, .int .i64 since), (14, .slice (some ⟨2, 0, none⟩) k openB), (15, .slice (some ⟨3, 0, none⟩) 0 openB), (16, .int .i64 k)]) (fun _ => []) (fun k => Hp 2 [none, some (.cells ⟨rows eC l, 0, false⟩), some (.cells ⟨rows eN (List.replicate k (-1)), 1, true⟩), some (.cells ⟨rows eN [], 1, true⟩)]) (fun k => k ≤ p) (fun k => p - k) 0 (Nat.zero_le _) (Wk.gc [0, 1, 2, 3] [(2, .room 0), (3, .room 0)] (of_decide_eq_true rfl) (of_decide_eq_true rfl) rfl rfl (of_decide_eq_true rfl) rfl rfl (by repeat (first | exact xiOK_nil | refine xiOK_cons (by first | trivial | exact roomOK _ (by decide)) ?_)) rfl (by simp -implicitDefEqProofs (disch := first | decide | exact of_eq_true (eq_true rfl) | omega | assumption) only [List.replicate, rows_nil, objOK, sgL, xiL, objAt, nilO, OM, mvL, mv, mvS, okS, okP, mvL_rows, okML, okM, okML_rows, List.getElem?_cons_zero, Option.getD_some, implies_true, imp_self, ne_eq, and_self, true_or, or_true, Nat.zero_mul, Nat.sub_self, openB_self, ↓vcD, vcE, evs, evP, evB, intsOf, fillC, Value.cells, pt, List.append_nil, List.nil_append, List.cons_append, List.length_cons, List.length_nil, List.filter_nil, List.map_nil, ↓List.getElem?_cons_zero, ↓List.getElem?_cons_succ, List.getElem?_cons_zero, List.getElem?_cons_succ, List.set_cons_zero, List.set_cons_succ, Option.join_some, Option.join_none, Option.map_some, List.all_cons, List.all_nil, Value.oneCell', reduceIte, reduceCtorEq, Nat.reduceEqDiff, Nat.reduceAdd, Nat.reduceMul, Nat.reduceLT, Nat.reduceBEq, Nat.reduceLeDiff, Nat.reduceSub, List.size_toArray]) (by simp -implicitDefEqProofs (disch := first | decide | exact of_eq_true (eq_true rfl) | omega | assumption) only [List.replicate, rows_nil, valOK, sgL, xiL, mv, mvA, mvL, mvS, okS, okP, okM, okMA, okML, Option.getD_some, implies_true, and_self, true_or, or_true, Int.natCast_add, Int.cast_ofNat_Int, Nat.zero_mul, Nat.sub_self, openB_self, ↓vcD, vcE, evs, evP, evB, intsOf, fillC, Value.cells, pt, List.append_nil, List.nil_append, List.cons_append, List.length_cons, List.length_nil, List.filter_nil, List.map_nil, ↓List.getElem?_cons_zero, ↓List.getElem?_cons_succ, List.getElem?_cons_zero, List.getElem?_cons_succ, List.set_cons_zero, List.set_cons_succ, Option.join_some, Option.join_none, Option.map_some, List.all_cons, List.all_nil, Value.oneCell', reduceIte, reduceCtorEq, Nat.reduceEqDiff, Nat.reduceAdd, Nat.reduceMul, Nat.reduceLT, Nat.reduceBEq, Nat.reduceLeDiff, Nat.reduceSub, List.size_toArray]) (fun _ h => by cases h) ⟨rfl, fun _ h => by cases h⟩) fun k hk => ?_
  refine ITri.seq ?_
  refine ITri.seq ?_
  refine ITri.reg pokT ?_; simp -implicitDefEqProofs (disch := first | decide | exact of_eq_true (eq_true rfl) | omega | assumption) only [ ↓vcD, vcE, evs, evP, evB, intsOf, fillC, Value.cells, pt, List.append_nil, List.nil_append, List.cons_append, List.length_cons, List.length_nil, List.filter_nil, List.map_nil, ↓List.getElem?_cons_zero, ↓List.getElem?_cons_succ, List.getElem?_cons_zero, List.getElem?_cons_succ, List.set_cons_zero, List.set_cons_succ, Option.join_some, Option.join_none, Option.map_some, List.all_cons, List.all_nil, Value.oneCell', reduceIte, reduceCtorEq, Nat.reduceEqDiff, Nat.reduceAdd, Nat.reduceMul, Nat.reduceLT, Nat.reduceBEq, Nat.reduceLeDiff, Nat.reduceSub, List.size_toArray] -- r6
  refine ITri.condD (by rfl) (fun h3 => ?_) (fun h3 => ?_) -- %34
  · refine ITri.skip ?_; simp only [SeqQ_normal, BlkQ_normal]
    refine ITri.seq ?_
    refine ITri.block ?_ -- 1
    have hlr : (rows eN (List.replicate k (-1 : Int))).length = k := by rw [rows_len, List.length_replicate, Nat.mul_one]
    have hsn : rows eN (List.replicate k (-1 : Int)) ++ [.int .i64 (-1)] = rows eN (List.replicate (k + 1) (-1 : Int)) := by
      rw [List.replicate_succ', rows_append]
      rfl
    refine ITri.reg pokT ?_; simp -implicitDefEqProofs (disch := first | decide | exact of_eq_true (eq_true rfl) | omega | assumption) only [hlr,  ↓vcD, vcE, evs, evP, evB, intsOf, fillC, Value.cells, pt, List.append_nil, List.nil_append, List.cons_append, List.length_cons, List.length_nil, List.filter_nil, List.map_nil, ↓List.getElem?_cons_zero, ↓List.getElem?_cons_succ, List.getElem?_cons_zero, List.getElem?_cons_succ, List.set_cons_zero, List.set_cons_succ, Option.join_some, Option.join_none, Option.map_some, List.all_cons, List.all_nil, Value.oneCell', reduceIte, reduceCtorEq, Nat.reduceEqDiff, Nat.reduceAdd, Nat.reduceMul, Nat.reduceLT, Nat.reduceBEq, Nat.reduceLeDiff, Nat.reduceSub, List.size_toArray] -- r8
    rw [hsn]
    refine ITri.reg pokT ?_; simp -implicitDefEqProofs (disch := first | decide | exact of_eq_true (eq_true rfl) | omega | assumption) only [ ↓vcD, vcE, evs, evP, evB, intsOf, fillC, Value.cells, pt, List.append_nil, List.nil_append, List.cons_append, List.length_cons, List.length_nil, List.filter_nil, List.map_nil, ↓List.getElem?_cons_zero, ↓List.getElem?_cons_succ, List.getElem?_cons_zero, List.getElem?_cons_succ, List.set_cons_zero, List.set_cons_succ, Option.join_some, Option.join_none, Option.map_some, List.all_cons, List.all_nil, Value.oneCell', reduceIte, reduceCtorEq, Nat.reduceEqDiff, Nat.reduceAdd, Nat.reduceMul, Nat.reduceLT, Nat.reduceBEq, Nat.reduceLeDiff, Nat.reduceSub, List.size_toArray] -- r7
    exact LoopQ.next (k + 1) (by omega) (by omega) (Wk.gc [0, 1, 5, 3] [] (of_decide_eq_true rfl) (of_decide_eq_true rfl) rfl rfl (of_decide_eq_true rfl) rfl rfl (fun _ h => by cases h) rfl (by simp -implicitDefEqProofs (disch := first | decide | exact of_eq_true (eq_true rfl) | omega | assumption) only [objOK, sgL, xiL, objAt, nilO, OM, mvL, mv, mvS, okS, okP, mvL_rows, okML, okM, okML_rows, List.getElem?_cons_zero, Option.getD_some, implies_true, imp_self, ne_eq, and_self, ↓vcD, vcE, evs, evP, evB, intsOf, fillC, Value.cells, pt, List.append_nil, List.nil_append, List.cons_append, List.length_cons, List.length_nil, List.filter_nil, List.map_nil, ↓List.getElem?_cons_zero, ↓List.getElem?_cons_succ, List.getElem?_cons_zero, List.getElem?_cons_succ, List.set_cons_zero, List.set_cons_succ, Option.join_some, Option.join_none, Option.map_some, List.all_cons, List.all_nil, Value.oneCell', reduceIte, reduceCtorEq, Nat.reduceEqDiff, Nat.reduceAdd, Nat.reduceMul, Nat.reduceLT, Nat.reduceBEq, Nat.reduceLeDiff, Nat.reduceSub, List.size_toArray]) (by simp -implicitDefEqProofs (disch := first | decide | exact of_eq_true (eq_true rfl) | omega | assumption) only [ valOK, sgL, xiL, mv, mvA, mvL, mvS, okS, okP, okM, okMA, okML, Option.getD_some, implies_true, and_self, Int.natCast_add, Int.cast_ofNat_Int, ↓vcD, vcE, evs, evP, evB, intsOf, fillC, Value.cells, pt, List.append_nil, List.nil_append, List.cons_append, List.length_cons, List.length_nil, List.filter_nil, List.map_nil, ↓List.getElem?_cons_zero, ↓List.getElem?_cons_succ, List.getElem?_cons_zero, List.getElem?_cons_succ, List.set_cons_zero, List.set_cons_succ, Option.join_some, Option.join_none, Option.map_some, List.all_cons, List.all_nil, Value.oneCell', reduceIte, reduceCtorEq, Nat.reduceEqDiff, Nat.reduceAdd, Nat.reduceMul, Nat.reduceLT, Nat.reduceBEq, Nat.reduceLeDiff, Nat.reduceSub, List.size_toArray]) (fun _ h => by cases h) ⟨rfl, fun _ h => by cases h⟩)
  refine ITri.exit ?_; try simp -implicitDefEqProofs (disch := first | decide | exact of_eq_true (eq_true rfl) | omega | assumption) only [ ↓vcD, vcE, evs, evP, evB, intsOf, fillC, Value.cells, pt, List.append_nil, List.nil_append, List.cons_append, List.length_cons, List.length_nil, List.filter_nil, List.map_nil, ↓List.getElem?_cons_zero, ↓List.getElem?_cons_succ, List.getElem?_cons_zero, List.getElem?_cons_succ, List.set_cons_zero, List.set_cons_succ, Option.join_some, Option.join_none, Option.map_some, List.all_cons, List.all_nil, Value.oneCell', reduceIte, reduceCtorEq, Nat.reduceEqDiff, Nat.reduceAdd, Nat.reduceMul, Nat.reduceLT, Nat.reduceBEq, Nat.reduceLeDiff, Nat.reduceSub, List.size_toArray]
  obtain rfl : p = k := by omega
  refine ITri.seq ?_
  refine ITri.seq ?_
  refine ITri.reg pokT ?_; simp -implicitDefEqProofs (disch := first | decide | exact of_eq_true (eq_true rfl) | omega | assumption) only [ ↓vcD, vcE, evs, evP, evB, intsOf, fillC, Value.cells, pt, List.append_nil, List.nil_append, List.cons_append, List.length_cons, List.length_nil, List.filter_nil, List.map_nil, ↓List.getElem?_cons_zero, ↓List.getElem?_cons_succ, List.getElem?_cons_zero, List.getElem?_cons_succ, List.set_cons_zero, List.set_cons_succ, Option.join_some, Option.join_none, Option.map_some, List.all_cons, List.all_nil, Value.oneCell', reduceIte, reduceCtorEq, Nat.reduceEqDiff, Nat.reduceAdd, Nat.reduceMul, Nat.reduceLT, Nat.reduceBEq, Nat.reduceLeDiff, Nat.reduceSub, List.size_toArray] -- r9
  refine ITri.block ?_ -- 2
  refine ITri.loop (fun k : Nat => [(0, .slice (some ⟨1, 0, none⟩) n c), (2, .int .i64 q), (3, .int .i64 r), (4, .int .i64 since), (14, .slice (some ⟨2, 0, none⟩) p openB), (15, .slice (some ⟨3, 0, none⟩) k openB), (17, .int .i64 k)]) (fun _ => []) (fun k => Hp 2 [none, some (.cells ⟨rows eC l, 0, false⟩), some (.cells ⟨rows eN (List.replicate p (-1)), 1, true⟩), some (.cells ⟨rows eN (List.replicate k (-1)), 1, true⟩)]) (fun k => k ≤ q) (fun k => q - k) 0 (Nat.zero_le _) (Wk.sub ⟨rfl, rfl, rfl, rfl, rfl, rfl, rfl, trivial⟩) fun k hk => ?_
  refine ITri.seq ?_
  refine ITri.seq ?_
  refine ITri.reg pokT ?_; simp -implicitDefEqProofs (disch := first | decide | exact of_eq_true (eq_true rfl) | omega | assumption) only [ ↓vcD, vcE, evs, evP, evB, intsOf, fillC, Value.cells, pt, List.append_nil, List.nil_append, List.cons_append, List.length_cons, List.length_nil, List.filter_nil, List.map_nil, ↓List.getElem?_cons_zero, ↓List.getElem?_cons_succ, List.getElem?_cons_zero, List.getElem?_cons_succ, List.set_cons_zero, List.set_cons_succ, Option.join_some, Option.join_none, Option.map_some, List.all_cons, List.all_nil, Value.oneCell', reduceIte, reduceCtorEq, Nat.reduceEqDiff, Nat.reduceAdd, Nat.reduceMul, Nat.reduceLT, Nat.reduceBEq, Nat.reduceLeDiff, Nat.reduceSub, List.size_toArray] -- r10
  refine ITri.condD (by rfl) (fun h3 => ?_) (fun h3 => ?_) -- %42
  · refine ITri.skip ?_; simp only [SeqQ_normal, BlkQ_normal]
    refine ITri.seq ?_
    refine ITri.block ?_ -- 3
    have hlr : (rows eN (List.replicate k (-1 : Int))).length = k := by rw [rows_len, List.length_replicate, Nat.mul_one]
    have hsn : rows eN (List.replicate k (-1 : Int)) ++ [.int .i64 (-1)] = rows eN (List.replicate (k + 1) (-1 : Int)) := by
      rw [List.replicate_succ', rows_append]
      rfl
    refine ITri.reg pokT ?_; simp -implicitDefEqProofs (disch := first | decide | exact of_eq_true (eq_true rfl) | omega | assumption) only [hlr,  ↓vcD, vcE, evs, evP, evB, intsOf, fillC, Value.cells, pt, List.append_nil, List.nil_append, List.cons_append, List.length_cons, List.length_nil, List.filter_nil, List.map_nil, ↓List.getElem?_cons_zero, ↓List.getElem?_cons_succ, List.getElem?_cons_zero, List.getElem?_cons_succ, List.set_cons_zero, List.set_cons_succ, Option.join_some, Option.join_none, Option.map_some, List.all_cons, List.all_nil, Value.oneCell', reduceIte, reduceCtorEq, Nat.reduceEqDiff, Nat.reduceAdd, Nat.reduceMul, Nat.reduceLT, Nat.reduceBEq, Nat.reduceLeDiff, Nat.reduceSub, List.size_toArray] -- r12
    rw [hsn]
    refine ITri.reg pokT ?_; simp -implicitDefEqProofs (disch := first | decide | exact of_eq_true (eq_true rfl) | omega | assumption) only [ ↓vcD, vcE, evs, evP, evB, intsOf, fillC, Value.cells, pt, List.append_nil, List.nil_append, List.cons_append, List.length_cons, List.length_nil, List.filter_nil, List.map_nil, ↓List.getElem?_cons_zero, ↓List.getElem?_cons_succ, List.getElem?_cons_zero, List.getElem?_cons_succ, List.set_cons_zero, List.set_cons_succ, Option.join_some, Option.join_none, Option.map_some, List.all_cons, List.all_nil, Value.oneCell', reduceIte, reduceCtorEq, Nat.reduceEqDiff, Nat.reduceAdd, Nat.reduceMul, Nat.reduceLT, Nat.reduceBEq, Nat.reduceLeDiff, Nat.reduceSub, List.size_toArray] -- r11
    exact LoopQ.next (k + 1) (by omega) (by omega) (Wk.gc [0, 1, 2, 5] [] (of_decide_eq_true rfl) (of_decide_eq_true rfl) rfl rfl (of_decide_eq_true rfl) rfl rfl (fun _ h => by cases h) rfl (by simp -implicitDefEqProofs (disch := first | decide | exact of_eq_true (eq_true rfl) | omega | assumption) only [objOK, sgL, xiL, objAt, nilO, OM, mvL, mv, mvS, okS, okP, mvL_rows, okML, okM, okML_rows, List.getElem?_cons_zero, Option.getD_some, implies_true, imp_self, ne_eq, and_self, ↓vcD, vcE, evs, evP, evB, intsOf, fillC, Value.cells, pt, List.append_nil, List.nil_append, List.cons_append, List.length_cons, List.length_nil, List.filter_nil, List.map_nil, ↓List.getElem?_cons_zero, ↓List.getElem?_cons_succ, List.getElem?_cons_zero, List.getElem?_cons_succ, List.set_cons_zero, List.set_cons_succ, Option.join_some, Option.join_none, Option.map_some, List.all_cons, List.all_nil, Value.oneCell', reduceIte, reduceCtorEq, Nat.reduceEqDiff, Nat.reduceAdd, Nat.reduceMul, Nat.reduceLT, Nat.reduceBEq, Nat.reduceLeDiff, Nat.reduceSub, List.size_toArray]) (by simp -implicitDefEqProofs (disch := first | decide | exact of_eq_true (eq_true rfl) | omega | assumption) only [ valOK, sgL, xiL, mv, mvA, mvL, mvS, okS, okP, okM, okMA, okML, Option.getD_some, implies_true, and_self, Int.natCast_add, Int.cast_ofNat_Int, ↓vcD, vcE, evs, evP, evB, intsOf, fillC, Value.cells, pt, List.append_nil, List.nil_append, List.cons_append, List.length_cons, List.length_nil, List.filter_nil, List.map_nil, ↓List.getElem?_cons_zero, ↓List.getElem?_cons_succ, List.getElem?_cons_zero, List.getElem?_cons_succ, List.set_cons_zero, List.set_cons_succ, Option.join_some, Option.join_none, Option.map_some, List.all_cons, List.all_nil, Value.oneCell', reduceIte, reduceCtorEq, Nat.reduceEqDiff, Nat.reduceAdd, Nat.reduceMul, Nat.reduceLT, Nat.reduceBEq, Nat.reduceLeDiff, Nat.reduceSub, List.size_toArray]) (fun _ h => by cases h) ⟨rfl, fun _ h => by cases h⟩)
  refine ITri.exit ?_; try simp -implicitDefEqProofs (disch := first | decide | exact of_eq_true (eq_true rfl) | omega | assumption) only [ ↓vcD, vcE, evs, evP, evB, intsOf, fillC, Value.cells, pt, List.append_nil, List.nil_append, List.cons_append, List.length_cons, List.length_nil, List.filter_nil, List.map_nil, ↓List.getElem?_cons_zero, ↓List.getElem?_cons_succ, List.getElem?_cons_zero, List.getElem?_cons_succ, List.set_cons_zero, List.set_cons_succ, Option.join_some, Option.join_none, Option.map_some, List.all_cons, List.all_nil, Value.oneCell', reduceIte, reduceCtorEq, Nat.reduceEqDiff, Nat.reduceAdd, Nat.reduceMul, Nat.reduceLT, Nat.reduceBEq, Nat.reduceLeDiff, Nat.reduceSub, List.size_toArray]
  obtain rfl : q = k := by omega
  refine ITri.seq ?_
  refine ITri.reg pokT ?_; simp -implicitDefEqProofs (disch := first | decide | exact of_eq_true (eq_true rfl) | omega | assumption) only [ ↓vcD, vcE, evs, evP, evB, intsOf, fillC, Value.cells, pt, List.append_nil, List.nil_append, List.cons_append, List.length_cons, List.length_nil, List.filter_nil, List.map_nil, ↓List.getElem?_cons_zero, ↓List.getElem?_cons_succ, List.getElem?_cons_zero, List.getElem?_cons_succ, List.set_cons_zero, List.set_cons_succ, Option.join_some, Option.join_none, Option.map_some, List.all_cons, List.all_nil, Value.oneCell', reduceIte, reduceCtorEq, Nat.reduceEqDiff, Nat.reduceAdd, Nat.reduceMul, Nat.reduceLT, Nat.reduceBEq, Nat.reduceLeDiff, Nat.reduceSub, List.size_toArray] -- r13
  refine ITri.seq ?_
  refine ITri.seq ?_
  refine ITri.reg pokT ?_; simp -implicitDefEqProofs (disch := first | decide | exact of_eq_true (eq_true rfl) | omega | assumption) only [ ↓vcD, vcE, evs, evP, evB, intsOf, fillC, Value.cells, pt, List.append_nil, List.nil_append, List.cons_append, List.length_cons, List.length_nil, List.filter_nil, List.map_nil, ↓List.getElem?_cons_zero, ↓List.getElem?_cons_succ, List.getElem?_cons_zero, List.getElem?_cons_succ, List.set_cons_zero, List.set_cons_succ, Option.join_some, Option.join_none, Option.map_some, List.all_cons, List.all_nil, Value.oneCell', reduceIte, reduceCtorEq, Nat.reduceEqDiff, Nat.reduceAdd, Nat.reduceMul, Nat.reduceLT, Nat.reduceBEq, Nat.reduceLeDiff, Nat.reduceSub, List.size_toArray] -- r14
  have hInB : ∀ x ∈ l, InB p q x := fun x hx => by have := hix x hx; exact ⟨this.1, by omega, this.2.2.2.1, by omega⟩
  obtain ⟨st, hs1, hs2, hs3⟩ := st_ex hsr since
  have hfin := tnK_G (p := p) (q := q) (bad := r) hs1 hs2 hs3
  refine ITri.block ?_ -- 4
  refine ITri.loop (fun y : Nat × Bool × List Int × List Int => [(0, .slice (some ⟨1, 0, none⟩) n c), (3, .int .i64 r), (4, .int .i64 since), (14, .slice (some ⟨2, 0, none⟩) p openB), (15, .slice (some ⟨3, 0, none⟩) q openB), (18, .bool y.2.1), (19, .int .i64 y.1)]) (fun _ => []) (fun y => tkM l y.2.2.1 y.2.2.2) (fun y => y.1 ≤ n ∧ y.2.1 = decide (st < y.1) ∧ y.2.2 = tkA l p q r since st y.1) (fun y => n - y.1) (0, false, List.replicate p (-1), List.replicate q (-1)) ⟨Nat.zero_le _, rfl, rfl⟩ (Wk.sub ⟨rfl, rfl, rfl, rfl, rfl, rfl, rfl, trivial⟩) fun y hy => ?_
  obtain ⟨k, bg, a, b⟩ := y
  obtain ⟨hk, hbg, hab⟩ := hy
  simp only at hk hbg hab
  refine ITri.seq ?_
  refine ITri.seq ?_
  refine ITri.reg pokT ?_; simp -implicitDefEqProofs (disch := first | decide | exact of_eq_true (eq_true rfl) | omega | assumption) only [ ↓vcD, vcE, evs, evP, evB, intsOf, fillC, Value.cells, pt, List.append_nil, List.nil_append, List.cons_append, List.length_cons, List.length_nil, List.filter_nil, List.map_nil, ↓List.getElem?_cons_zero, ↓List.getElem?_cons_succ, List.getElem?_cons_zero, List.getElem?_cons_succ, List.set_cons_zero, List.set_cons_succ, Option.join_some, Option.join_none, Option.map_some, List.all_cons, List.all_nil, Value.oneCell', reduceIte, reduceCtorEq, Nat.reduceEqDiff, Nat.reduceAdd, Nat.reduceMul, Nat.reduceLT, Nat.reduceBEq, Nat.reduceLeDiff, Nat.reduceSub, List.size_toArray] -- r15
  refine ITri.condD (by rfl) (fun h7 => ?_) (fun h7 => ?_) -- %51
  · refine ITri.skip ?_; simp only [SeqQ_normal, BlkQ_normal]
    refine ITri.seq ?_
    refine ITri.block ?_ -- 5
    refine ITri.seq ?_
    refine ITri.cut (fun y : Bool × List Int × List Int => [(0, .slice (some ⟨1, 0, none⟩) n c), (3, .int .i64 r), (4, .int .i64 since), (14, .slice (some ⟨2, 0, none⟩) p openB), (15, .slice (some ⟨3, 0, none⟩) q openB), (18, .bool y.1), (19, .int .i64 k)]) (fun _ => []) (fun y => tkM l y.2.1 y.2.2) (fun y => y.1 = decide (st ≤ k) ∧ y.2 = tkB l p q r since st k) ?_ (fun y hy => ?_)
    · refine ITri.seq ?_
      rcases Nat.lt_trichotomy k st with h | h | h
      · rw [decide_eq_false (by omega)] at hbg
        subst hbg
        have hne : ¬ (k : Int) = n := by omega
        have hlt := hs2 k h
        have ga : (rows eC l)[k * 3]? = some (.int .i64 (nth l k).1) := rows_get0 (f := eC) (by omega) (by omega)
        have hgn : ¬ since ≤ (nth l k).1 := by omega
        refine ITri.reg pokT ?_; simp -implicitDefEqProofs (disch := first | decide | exact of_eq_true (eq_true rfl) | omega | assumption) only [hne, ga, hgn, decide_false, decide_true, eq_self,  ↓vcD, vcE, evs, evP, evB, intsOf, fillC, Value.cells, pt, List.append_nil, List.nil_append, List.cons_append, List.length_cons, List.length_nil, List.filter_nil, List.map_nil, ↓List.getElem?_cons_zero, ↓List.getElem?_cons_succ, List.getElem?_cons_zero, List.getElem?_cons_succ, List.set_cons_zero, List.set_cons_succ, Option.join_some, Option.join_none, Option.map_some, List.all_cons, List.all_nil, Value.oneCell', reduceIte, reduceCtorEq, Nat.reduceEqDiff, Nat.reduceAdd, Nat.reduceMul, Nat.reduceLT, Nat.reduceBEq, Nat.reduceLeDiff, Nat.reduceSub, List.size_toArray]
        refine ITri.cond (v := false) rfl (fun h => by cases h) (fun _ => ?_)
        refine ITri.skip ?_
        exact CutQ.mk (false, a, b) ⟨(decide_eq_false (by omega)).symm, by rw [← tkA_lt h]; exact hab⟩ (Wk.sub ⟨rfl, rfl, rfl, rfl, rfl, rfl, rfl, trivial⟩)
      · subst h
        rw [decide_eq_false (by omega)] at hbg
        subst hbg
        have hab2 : (a, b) = (List.replicate p (-1), List.replicate q (-1)) := by rw [hab]; unfold tkA; rw [if_neg (by omega)]
        obtain ⟨rfl, rfl⟩ := Prod.mk.inj hab2
        have hgr : (rows eN (List.replicate q (-1 : Int)))[r]? = some (.int .i64 (-1)) := by
          rw [getN (by rw [List.length_replicate]; omega), nth_rep (by omega)]
        have hwr : writeAt (rows eN (List.replicate q (-1 : Int))) r [.int .i64 since] = rows eN ((List.replicate q (-1)).set r since) := wr_eN _ (by rw [List.length_replicate]; omega)
        have hlr : (rows eN (List.replicate q (-1 : Int))).length = q := by rw [len_eN, List.length_replicate]
        have hq2 : (List.replicate p (-1), (List.replicate q (-1)).set r since) = tkB l p q r since k k := by
          unfold tkB
          rw [if_pos (by omega), tnK_st]
        by_cases h9 : (k : Int) = n
        · refine ITri.reg pokT ?_; simp -implicitDefEqProofs (disch := first | decide | exact of_eq_true (eq_true rfl) | omega | assumption) only [h9, decide_true, eq_self,  ↓vcD, vcE, evs, evP, evB, intsOf, fillC, Value.cells, pt, List.append_nil, List.nil_append, List.cons_append, List.length_cons, List.length_nil, List.filter_nil, List.map_nil, ↓List.getElem?_cons_zero, ↓List.getElem?_cons_succ, List.getElem?_cons_zero, List.getElem?_cons_succ, List.set_cons_zero, List.set_cons_succ, Option.join_some, Option.join_none, Option.map_some, List.all_cons, List.all_nil, Value.oneCell', reduceIte, reduceCtorEq, Nat.reduceEqDiff, Nat.reduceAdd, Nat.reduceMul, Nat.reduceLT, Nat.reduceBEq, Nat.reduceLeDiff, Nat.reduceSub, List.size_toArray]
          refine ITri.cond (v := true) rfl (fun _ => ?_) (fun h => by cases h)
          refine ITri.seq ?_
          refine ITri.reg pokT ?_; simp -implicitDefEqProofs (disch := first | decide | exact of_eq_true (eq_true rfl) | omega | assumption) only [ ↓vcD, vcE, evs, evP, evB, intsOf, fillC, Value.cells, pt, List.append_nil, List.nil_append, List.cons_append, List.length_cons, List.length_nil, List.filter_nil, List.map_nil, ↓List.getElem?_cons_zero, ↓List.getElem?_cons_succ, List.getElem?_cons_zero, List.getElem?_cons_succ, List.set_cons_zero, List.set_cons_succ, Option.join_some, Option.join_none, Option.map_some, List.all_cons, List.all_nil, Value.oneCell', reduceIte, reduceCtorEq, Nat.reduceEqDiff, Nat.reduceAdd, Nat.reduceMul, Nat.reduceLT, Nat.reduceBEq, Nat.reduceLeDiff, Nat.reduceSub, List.size_toArray] -- r18
          refine ITri.seq ?_
          refine ITri.reg pokT ?_; simp -implicitDefEqProofs (disch := first | decide | exact of_eq_true (eq_true rfl) | omega | assumption) only [hgr, hlr,  ↓vcD, vcE, evs, evP, evB, intsOf, fillC, Value.cells, pt, List.append_nil, List.nil_append, List.cons_append, List.length_cons, List.length_nil, List.filter_nil, List.map_nil, ↓List.getElem?_cons_zero, ↓List.getElem?_cons_succ, List.getElem?_cons_zero, List.getElem?_cons_succ, List.set_cons_zero, List.set_cons_succ, Option.join_some, Option.join_none, Option.map_some, List.all_cons, List.all_nil, Value.oneCell', reduceIte, reduceCtorEq, Nat.reduceEqDiff, Nat.reduceAdd, Nat.reduceMul, Nat.reduceLT, Nat.reduceBEq, Nat.reduceLeDiff, Nat.reduceSub, List.size_toArray] -- r19
          refine ITri.cond (v := true) rfl (fun _ => ?_) (fun h => by cases h)
          refine ITri.reg pokT ?_; simp -implicitDefEqProofs (disch := first | decide | exact of_eq_true (eq_true rfl) | omega | assumption) only [hwr, hlr,  ↓vcD, vcE, evs, evP, evB, intsOf, fillC, Value.cells, pt, List.append_nil, List.nil_append, List.cons_append, List.length_cons, List.length_nil, List.filter_nil, List.map_nil, ↓List.getElem?_cons_zero, ↓List.getElem?_cons_succ, List.getElem?_cons_zero, List.getElem?_cons_succ, List.set_cons_zero, List.set_cons_succ, Option.join_some, Option.join_none, Option.map_some, List.all_cons, List.all_nil, Value.oneCell', reduceIte, reduceCtorEq, Nat.reduceEqDiff, Nat.reduceAdd, Nat.reduceMul, Nat.reduceLT, Nat.reduceBEq, Nat.reduceLeDiff, Nat.reduceSub, List.size_toArray] -- r20
          exact CutQ.mk (true, _, _) ⟨by simp, hq2⟩ (Wk.sub ⟨rfl, rfl, rfl, rfl, rfl, rfl, rfl, trivial⟩)
        · have hge := hs3 k (by omega) (by omega)
          have ga : (rows eC l)[k * 3]? = some (.int .i64 (nth l k).1) := rows_get0 (f := eC) (by omega) (by omega)
          refine ITri.reg pokT ?_; simp -implicitDefEqProofs (disch := first | decide | exact of_eq_true (eq_true rfl) | omega | assumption) only [h9, ga, hge, decide_true, decide_false,  ↓vcD, vcE, evs, evP, evB, intsOf, fillC, Value.cells, pt, List.append_nil, List.nil_append, List.cons_append, List.length_cons, List.length_nil, List.filter_nil, List.map_nil, ↓List.getElem?_cons_zero, ↓List.getElem?_cons_succ, List.getElem?_cons_zero, List.getElem?_cons_succ, List.set_cons_zero, List.set_cons_succ, Option.join_some, Option.join_none, Option.map_some, List.all_cons, List.all_nil, Value.oneCell', reduceIte, reduceCtorEq, Nat.reduceEqDiff, Nat.reduceAdd, Nat.reduceMul, Nat.reduceLT, Nat.reduceBEq, Nat.reduceLeDiff, Nat.reduceSub, List.size_toArray]
          refine ITri.cond (v := true) rfl (fun _ => ?_) (fun h => by cases h)
          refine ITri.seq ?_
          refine ITri.reg pokT ?_; simp -implicitDefEqProofs (disch := first | decide | exact of_eq_true (eq_true rfl) | omega | assumption) only [ ↓vcD, vcE, evs, evP, evB, intsOf, fillC, Value.cells, pt, List.append_nil, List.nil_append, List.cons_append, List.length_cons, List.length_nil, List.filter_nil, List.map_nil, ↓List.getElem?_cons_zero, ↓List.getElem?_cons_succ, List.getElem?_cons_zero, List.getElem?_cons_succ, List.set_cons_zero, List.set_cons_succ, Option.join_some, Option.join_none, Option.map_some, List.all_cons, List.all_nil, Value.oneCell', reduceIte, reduceCtorEq, Nat.reduceEqDiff, Nat.reduceAdd, Nat.reduceMul, Nat.reduceLT, Nat.reduceBEq, Nat.reduceLeDiff, Nat.reduceSub, List.size_toArray] -- r18
          refine ITri.seq ?_
          refine ITri.reg pokT ?_; simp -implicitDefEqProofs (disch := first | decide | exact of_eq_true (eq_true rfl) | omega | assumption) only [hgr, hlr,  ↓vcD, vcE, evs, evP, evB, intsOf, fillC, Value.cells, pt, List.append_nil, List.nil_append, List.cons_append, List.length_cons, List.length_nil, List.filter_nil, List.map_nil, ↓List.getElem?_cons_zero, ↓List.getElem?_cons_succ, List.getElem?_cons_zero, List.getElem?_cons_succ, List.set_cons_zero, List.set_cons_succ, Option.join_some, Option.join_none, Option.map_some, List.all_cons, List.all_nil, Value.oneCell', reduceIte, reduceCtorEq, Nat.reduceEqDiff, Nat.reduceAdd, Nat.reduceMul, Nat.reduceLT, Nat.reduceBEq, Nat.reduceLeDiff, Nat.reduceSub, List.size_toArray] -- r19
          refine ITri.cond (v := true) rfl (fun _ => ?_) (fun h => by cases h)
          refine ITri.reg pokT ?_; simp -implicitDefEqProofs (disch := first | decide | exact of_eq_true (eq_true rfl) | omega | assumption) only [hwr, hlr,  ↓vcD, vcE, evs, evP, evB, intsOf, fillC, Value.cells, pt, List.append_nil, List.nil_append, List.cons_append, List.length_cons, List.length_nil, List.filter_nil, List.map_nil, ↓List.getElem?_cons_zero, ↓List.getElem?_cons_succ, List.getElem?_cons_zero, List.getElem?_cons_succ, List.set_cons_zero, List.set_cons_succ, Option.join_some, Option.join_none, Option.map_some, List.all_cons, List.all_nil, Value.oneCell', reduceIte, reduceCtorEq, Nat.reduceEqDiff, Nat.reduceAdd, Nat.reduceMul, Nat.reduceLT, Nat.reduceBEq, Nat.reduceLeDiff, Nat.reduceSub, List.size_toArray] -- r20
          exact CutQ.mk (true, _, _) ⟨by simp, hq2⟩ (Wk.sub ⟨rfl, rfl, rfl, rfl, rfl, rfl, rfl, trivial⟩)
      · rw [decide_eq_true (by omega)] at hbg
        subst hbg
        refine ITri.reg pokT ?_; simp -implicitDefEqProofs (disch := first | decide | exact of_eq_true (eq_true rfl) | omega | assumption) only [ ↓vcD, vcE, evs, evP, evB, intsOf, fillC, Value.cells, pt, List.append_nil, List.nil_append, List.cons_append, List.length_cons, List.length_nil, List.filter_nil, List.map_nil, ↓List.getElem?_cons_zero, ↓List.getElem?_cons_succ, List.getElem?_cons_zero, List.getElem?_cons_succ, List.set_cons_zero, List.set_cons_succ, Option.join_some, Option.join_none, Option.map_some, List.all_cons, List.all_nil, Value.oneCell', reduceIte, reduceCtorEq, Nat.reduceEqDiff, Nat.reduceAdd, Nat.reduceMul, Nat.reduceLT, Nat.reduceBEq, Nat.reduceLeDiff, Nat.reduceSub, List.size_toArray]
        refine ITri.cond (v := false) rfl (fun h => by cases h) (fun _ => ?_)
        refine ITri.skip ?_
        exact CutQ.mk (true, a, b) ⟨(decide_eq_true (by omega)).symm, by rw [← tkA_gt h]; exact hab⟩ (Wk.sub ⟨rfl, rfl, rfl, rfl, rfl, rfl, rfl, trivial⟩)
    obtain ⟨bg2, a2, b2⟩ := y
    obtain ⟨hbg2, hab2⟩ := hy
    simp only at hbg2 hab2
    subst hbg2
    have la : a2.length = p := by have := (tkB_len l p q r since st k).1; rw [← hab2] at this; exact this
    have lb : b2.length = q := by have := (tkB_len l p q r since st k).2; rw [← hab2] at this; exact this
    simp only [SeqQ_normal]
    refine ITri.seq ?_
    refine ITri.seq ?_
    refine ITri.reg pokT ?_; simp -implicitDefEqProofs (disch := first | decide | exact of_eq_true (eq_true rfl) | omega | assumption) only [ ↓vcD, vcE, evs, evP, evB, intsOf, fillC, Value.cells, pt, List.append_nil, List.nil_append, List.cons_append, List.length_cons, List.length_nil, List.filter_nil, List.map_nil, ↓List.getElem?_cons_zero, ↓List.getElem?_cons_succ, List.getElem?_cons_zero, List.getElem?_cons_succ, List.set_cons_zero, List.set_cons_succ, Option.join_some, Option.join_none, Option.map_some, List.all_cons, List.all_nil, Value.oneCell', reduceIte, reduceCtorEq, Nat.reduceEqDiff, Nat.reduceAdd, Nat.reduceMul, Nat.reduceLT, Nat.reduceBEq, Nat.reduceLeDiff, Nat.reduceSub, List.size_toArray] -- r21
    refine ITri.condD (by rfl) (fun h10 => ?_) (fun h10 => ?_) -- %83
    · refine ITri.exit ?_; try simp -implicitDefEqProofs (disch := first | decide | exact of_eq_true (eq_true rfl) | omega | assumption) only [ ↓vcD, vcE, evs, evP, evB, intsOf, fillC, Value.cells, pt, List.append_nil, List.nil_append, List.cons_append, List.length_cons, List.length_nil, List.filter_nil, List.map_nil, ↓List.getElem?_cons_zero, ↓List.getElem?_cons_succ, List.getElem?_cons_zero, List.getElem?_cons_succ, List.set_cons_zero, List.set_cons_succ, Option.join_some, Option.join_none, Option.map_some, List.all_cons, List.all_nil, Value.oneCell', reduceIte, reduceCtorEq, Nat.reduceEqDiff, Nat.reduceAdd, Nat.reduceMul, Nat.reduceLT, Nat.reduceBEq, Nat.reduceLeDiff, Nat.reduceSub, List.size_toArray]
      have hkn : k = l.length := by omega
      have hfin2 : (a2, b2) = tnG l p q r since := by
        rw [hab2, ← hfin, hkn]
        unfold tkB
        rw [if_pos hs1]
      rw [← hfin2]
      refine ITri.seq ?_
      refine ITri.reg pokT ?_; simp -implicitDefEqProofs (disch := first | decide | exact of_eq_true (eq_true rfl) | omega | assumption) only [ ↓vcD, vcE, evs, evP, evB, intsOf, fillC, Value.cells, pt, List.append_nil, List.nil_append, List.cons_append, List.length_cons, List.length_nil, List.filter_nil, List.map_nil, ↓List.getElem?_cons_zero, ↓List.getElem?_cons_succ, List.getElem?_cons_zero, List.getElem?_cons_succ, List.set_cons_zero, List.set_cons_succ, Option.join_some, Option.join_none, Option.map_some, List.all_cons, List.all_nil, Value.oneCell', reduceIte, reduceCtorEq, Nat.reduceEqDiff, Nat.reduceAdd, Nat.reduceMul, Nat.reduceLT, Nat.reduceBEq, Nat.reduceLeDiff, Nat.reduceSub, List.size_toArray] -- r29
      refine ITri.ret ?_
      exact end_own3 (k := 2) (k2 := 3) (by decide) (by decide) (by decide) (rows_no (f := eN) _) (rows_no (f := eN) _) rfl rfl rfl
    refine ITri.skip ?_; simp only [SeqQ_normal, BlkQ_normal]
    have hkl : k < l.length := by omega
    have hxb := hInB _ (nth_mem hkl)
    obtain ⟨⟨at', lot, tool⟩, hx⟩ : ∃ x, nth l k = x := ⟨_, rfl⟩
    have hnx := tkB_next (since := since) (st := st) (r := r) hkl hxb
    rw [hx] at hxb hnx
    rw [← hab2] at hnx
    obtain ⟨x0, x1, x2, x3⟩ := hxb
    simp only at x0 x1 x2 x3
    obtain ⟨t, ht⟩ : ∃ t : Nat, (t : Int) = tool := ⟨tool.toNat, by omega⟩
    subst ht
    have htk : takeC (rows eC l) (k * 3) 3 = some [.int .i64 at', .int .i64 lot, .int .i64 t] := by rw [rows_takeC (f := eC) hkl, hx]; rfl
    have gb : (rows eN b2)[t]? = some (.int .i64 (nth b2 t)) := getN (by omega)
    have lrb : (rows eN b2).length = q := by rw [len_eN, lb]
    have lra : (rows eN a2).length = p := by rw [len_eN, la]
    refine ITri.seq ?_
    refine ITri.reg pokT ?_; simp -implicitDefEqProofs (disch := first | decide | exact of_eq_true (eq_true rfl) | omega | assumption) only [htk,  ↓vcD, vcE, evs, evP, evB, intsOf, fillC, Value.cells, pt, List.append_nil, List.nil_append, List.cons_append, List.length_cons, List.length_nil, List.filter_nil, List.map_nil, ↓List.getElem?_cons_zero, ↓List.getElem?_cons_succ, List.getElem?_cons_zero, List.getElem?_cons_succ, List.set_cons_zero, List.set_cons_succ, Option.join_some, Option.join_none, Option.map_some, List.all_cons, List.all_nil, Value.oneCell', reduceIte, reduceCtorEq, Nat.reduceEqDiff, Nat.reduceAdd, Nat.reduceMul, Nat.reduceLT, Nat.reduceBEq, Nat.reduceLeDiff, Nat.reduceSub, List.size_toArray] -- r22
    refine ITri.cut (fun _ : Unit => [(0, .slice (some ⟨1, 0, none⟩) n c), (3, .int .i64 r), (4, .int .i64 since), (14, .slice (some ⟨2, 0, none⟩) p openB), (15, .slice (some ⟨3, 0, none⟩) q openB), (18, .bool (decide (st ≤ k))), (19, .int .i64 k)]) (fun _ => []) (fun _ => Hp 2 [none, some (.cells ⟨rows eC l, 0, false⟩), some (.cells ⟨rows eN (tnS (a2, b2) (at', lot, (t : Int))).1, 1, true⟩), some (.cells ⟨rows eN (tnS (a2, b2) (at', lot, (t : Int))).2, 1, true⟩), some (.cells ⟨[.int .i64 at', .int .i64 lot, .int .i64 t], 1, false⟩)]) (fun _ => True) ?_ (fun _ _ => ?_)
    · refine ITri.block ?_
      refine ITri.seq ?_
      by_cases c1 : lot < 0
      · have e1 : tnS (a2, b2) (at', lot, (t : Int)) = (a2, b2.set t (-1)) := if_pos c1
        have hw := wr_eN (xs := b2) (j := t) (-1) (by omega)
        rw [e1]
        refine ITri.reg pokT ?_; simp -implicitDefEqProofs (disch := first | decide | exact of_eq_true (eq_true rfl) | omega | assumption) only [c1, decide_true,  ↓vcD, vcE, evs, evP, evB, intsOf, fillC, Value.cells, pt, List.append_nil, List.nil_append, List.cons_append, List.length_cons, List.length_nil, List.filter_nil, List.map_nil, ↓List.getElem?_cons_zero, ↓List.getElem?_cons_succ, List.getElem?_cons_zero, List.getElem?_cons_succ, List.set_cons_zero, List.set_cons_succ, Option.join_some, Option.join_none, Option.map_some, List.all_cons, List.all_nil, Value.oneCell', reduceIte, reduceCtorEq, Nat.reduceEqDiff, Nat.reduceAdd, Nat.reduceMul, Nat.reduceLT, Nat.reduceBEq, Nat.reduceLeDiff, Nat.reduceSub, List.size_toArray] -- r23
        refine ITri.cond (v := true) rfl (fun _ => ?_) (fun h => by cases h)
        refine ITri.reg pokT ?_; simp -implicitDefEqProofs (disch := first | decide | exact of_eq_true (eq_true rfl) | omega | assumption) only [lrb, hw,  ↓vcD, vcE, evs, evP, evB, intsOf, fillC, Value.cells, pt, List.append_nil, List.nil_append, List.cons_append, List.length_cons, List.length_nil, List.filter_nil, List.map_nil, ↓List.getElem?_cons_zero, ↓List.getElem?_cons_succ, List.getElem?_cons_zero, List.getElem?_cons_succ, List.set_cons_zero, List.set_cons_succ, Option.join_some, Option.join_none, Option.map_some, List.all_cons, List.all_nil, Value.oneCell', reduceIte, reduceCtorEq, Nat.reduceEqDiff, Nat.reduceAdd, Nat.reduceMul, Nat.reduceLT, Nat.reduceBEq, Nat.reduceLeDiff, Nat.reduceSub, List.size_toArray] -- r24
        exact CutQ.mk () trivial (Wk.sub ⟨rfl, rfl, rfl, rfl, rfl, rfl, rfl, trivial⟩)
      obtain ⟨lo, hlo⟩ : ∃ lo : Nat, (lo : Int) = lot := ⟨lot.toNat, by omega⟩
      subst hlo
      have ga : (rows eN a2)[lo]? = some (.int .i64 (nth a2 lo)) := getN (by omega)
      have e1 : tnS (a2, b2) (at', (lo : Int), (t : Int)) = if 0 ≤ nth b2 t ∧ nth a2 lo < 0 then (a2.set lo at', b2) else if nth b2 t < 0 ∧ 0 ≤ nth a2 lo then (a2, b2.set t at') else (a2, b2) := if_neg c1
      rw [e1]
      refine ITri.reg pokT ?_; simp -implicitDefEqProofs (disch := first | decide | exact of_eq_true (eq_true rfl) | omega | assumption) only [c1, decide_false,  ↓vcD, vcE, evs, evP, evB, intsOf, fillC, Value.cells, pt, List.append_nil, List.nil_append, List.cons_append, List.length_cons, List.length_nil, List.filter_nil, List.map_nil, ↓List.getElem?_cons_zero, ↓List.getElem?_cons_succ, List.getElem?_cons_zero, List.getElem?_cons_succ, List.set_cons_zero, List.set_cons_succ, Option.join_some, Option.join_none, Option.map_some, List.all_cons, List.all_nil, Value.oneCell', reduceIte, reduceCtorEq, Nat.reduceEqDiff, Nat.reduceAdd, Nat.reduceMul, Nat.reduceLT, Nat.reduceBEq, Nat.reduceLeDiff, Nat.reduceSub, List.size_toArray] -- r23
      refine ITri.cond (v := false) rfl (fun h => by cases h) (fun _ => ?_)
      refine ITri.seq ?_
      by_cases c2 : 0 ≤ nth b2 t
      · by_cases c3 : nth a2 lo < 0
        · have hw := wr_eN (xs := a2) (j := lo) at' (by omega)
          rw [if_pos ⟨c2, c3⟩]
          refine ITri.reg pokT ?_; simp -implicitDefEqProofs (disch := first | decide | exact of_eq_true (eq_true rfl) | omega | assumption) only [gb, ga, c2, c3, lrb, lra, decide_true,  ↓vcD, vcE, evs, evP, evB, intsOf, fillC, Value.cells, pt, List.append_nil, List.nil_append, List.cons_append, List.length_cons, List.length_nil, List.filter_nil, List.map_nil, ↓List.getElem?_cons_zero, ↓List.getElem?_cons_succ, List.getElem?_cons_zero, List.getElem?_cons_succ, List.set_cons_zero, List.set_cons_succ, Option.join_some, Option.join_none, Option.map_some, List.all_cons, List.all_nil, Value.oneCell', reduceIte, reduceCtorEq, Nat.reduceEqDiff, Nat.reduceAdd, Nat.reduceMul, Nat.reduceLT, Nat.reduceBEq, Nat.reduceLeDiff, Nat.reduceSub, List.size_toArray] -- r25
          refine ITri.cond (v := true) rfl (fun _ => ?_) (fun h => by cases h)
          refine ITri.reg pokT ?_; simp -implicitDefEqProofs (disch := first | decide | exact of_eq_true (eq_true rfl) | omega | assumption) only [hw, lra,  ↓vcD, vcE, evs, evP, evB, intsOf, fillC, Value.cells, pt, List.append_nil, List.nil_append, List.cons_append, List.length_cons, List.length_nil, List.filter_nil, List.map_nil, ↓List.getElem?_cons_zero, ↓List.getElem?_cons_succ, List.getElem?_cons_zero, List.getElem?_cons_succ, List.set_cons_zero, List.set_cons_succ, Option.join_some, Option.join_none, Option.map_some, List.all_cons, List.all_nil, Value.oneCell', reduceIte, reduceCtorEq, Nat.reduceEqDiff, Nat.reduceAdd, Nat.reduceMul, Nat.reduceLT, Nat.reduceBEq, Nat.reduceLeDiff, Nat.reduceSub, List.size_toArray] -- r26
          exact CutQ.mk () trivial (Wk.sub ⟨rfl, rfl, rfl, rfl, rfl, rfl, rfl, trivial⟩)
        · have c4 : ¬ nth b2 t < 0 := by omega
          rw [if_neg (fun e => c3 e.2), if_neg (fun e => c4 e.1)]
          refine ITri.reg pokT ?_; simp -implicitDefEqProofs (disch := first | decide | exact of_eq_true (eq_true rfl) | omega | assumption) only [gb, ga, c2, c3, lrb, lra, decide_true, decide_false,  ↓vcD, vcE, evs, evP, evB, intsOf, fillC, Value.cells, pt, List.append_nil, List.nil_append, List.cons_append, List.length_cons, List.length_nil, List.filter_nil, List.map_nil, ↓List.getElem?_cons_zero, ↓List.getElem?_cons_succ, List.getElem?_cons_zero, List.getElem?_cons_succ, List.set_cons_zero, List.set_cons_succ, Option.join_some, Option.join_none, Option.map_some, List.all_cons, List.all_nil, Value.oneCell', reduceIte, reduceCtorEq, Nat.reduceEqDiff, Nat.reduceAdd, Nat.reduceMul, Nat.reduceLT, Nat.reduceBEq, Nat.reduceLeDiff, Nat.reduceSub, List.size_toArray] -- r25
          refine ITri.cond (v := false) rfl (fun h => by cases h) (fun _ => ?_)
          refine ITri.seq ?_
          refine ITri.reg pokT ?_; simp -implicitDefEqProofs (disch := first | decide | exact of_eq_true (eq_true rfl) | omega | assumption) only [gb, ga, c4, lrb, lra, decide_true, decide_false,  ↓vcD, vcE, evs, evP, evB, intsOf, fillC, Value.cells, pt, List.append_nil, List.nil_append, List.cons_append, List.length_cons, List.length_nil, List.filter_nil, List.map_nil, ↓List.getElem?_cons_zero, ↓List.getElem?_cons_succ, List.getElem?_cons_zero, List.getElem?_cons_succ, List.set_cons_zero, List.set_cons_succ, Option.join_some, Option.join_none, Option.map_some, List.all_cons, List.all_nil, Value.oneCell', reduceIte, reduceCtorEq, Nat.reduceEqDiff, Nat.reduceAdd, Nat.reduceMul, Nat.reduceLT, Nat.reduceBEq, Nat.reduceLeDiff, Nat.reduceSub, List.size_toArray] -- r27
          refine ITri.cond (v := false) rfl (fun h => by cases h) (fun _ => ?_)
          refine ITri.skip ?_; simp only [SeqQ_normal, BlkQ_normal]
          exact CutQ.mk () trivial (Wk.sub ⟨rfl, rfl, rfl, rfl, rfl, rfl, rfl, trivial⟩)
      · have c4 : nth b2 t < 0 := by omega
        rw [if_neg (fun e => c2 e.1)]
        refine ITri.reg pokT ?_; simp -implicitDefEqProofs (disch := first | decide | exact of_eq_true (eq_true rfl) | omega | assumption) only [gb, ga, c2, lrb, lra, decide_true, decide_false,  ↓vcD, vcE, evs, evP, evB, intsOf, fillC, Value.cells, pt, List.append_nil, List.nil_append, List.cons_append, List.length_cons, List.length_nil, List.filter_nil, List.map_nil, ↓List.getElem?_cons_zero, ↓List.getElem?_cons_succ, List.getElem?_cons_zero, List.getElem?_cons_succ, List.set_cons_zero, List.set_cons_succ, Option.join_some, Option.join_none, Option.map_some, List.all_cons, List.all_nil, Value.oneCell', reduceIte, reduceCtorEq, Nat.reduceEqDiff, Nat.reduceAdd, Nat.reduceMul, Nat.reduceLT, Nat.reduceBEq, Nat.reduceLeDiff, Nat.reduceSub, List.size_toArray] -- r25
        refine ITri.cond (v := false) rfl (fun h => by cases h) (fun _ => ?_)
        refine ITri.seq ?_
        by_cases c5 : 0 ≤ nth a2 lo
        · have hw := wr_eN (xs := b2) (j := t) at' (by omega)
          rw [if_pos ⟨c4, c5⟩]
          refine ITri.reg pokT ?_; simp -implicitDefEqProofs (disch := first | decide | exact of_eq_true (eq_true rfl) | omega | assumption) only [gb, ga, c4, c5, lrb, lra, decide_true, decide_false,  ↓vcD, vcE, evs, evP, evB, intsOf, fillC, Value.cells, pt, List.append_nil, List.nil_append, List.cons_append, List.length_cons, List.length_nil, List.filter_nil, List.map_nil, ↓List.getElem?_cons_zero, ↓List.getElem?_cons_succ, List.getElem?_cons_zero, List.getElem?_cons_succ, List.set_cons_zero, List.set_cons_succ, Option.join_some, Option.join_none, Option.map_some, List.all_cons, List.all_nil, Value.oneCell', reduceIte, reduceCtorEq, Nat.reduceEqDiff, Nat.reduceAdd, Nat.reduceMul, Nat.reduceLT, Nat.reduceBEq, Nat.reduceLeDiff, Nat.reduceSub, List.size_toArray] -- r27
          refine ITri.cond (v := true) rfl (fun _ => ?_) (fun h => by cases h)
          refine ITri.reg pokT ?_; simp -implicitDefEqProofs (disch := first | decide | exact of_eq_true (eq_true rfl) | omega | assumption) only [hw, lrb,  ↓vcD, vcE, evs, evP, evB, intsOf, fillC, Value.cells, pt, List.append_nil, List.nil_append, List.cons_append, List.length_cons, List.length_nil, List.filter_nil, List.map_nil, ↓List.getElem?_cons_zero, ↓List.getElem?_cons_succ, List.getElem?_cons_zero, List.getElem?_cons_succ, List.set_cons_zero, List.set_cons_succ, Option.join_some, Option.join_none, Option.map_some, List.all_cons, List.all_nil, Value.oneCell', reduceIte, reduceCtorEq, Nat.reduceEqDiff, Nat.reduceAdd, Nat.reduceMul, Nat.reduceLT, Nat.reduceBEq, Nat.reduceLeDiff, Nat.reduceSub, List.size_toArray] -- r28
          exact CutQ.mk () trivial (Wk.sub ⟨rfl, rfl, rfl, rfl, rfl, rfl, rfl, trivial⟩)
        · rw [if_neg (fun e => c5 e.2)]
          refine ITri.reg pokT ?_; simp -implicitDefEqProofs (disch := first | decide | exact of_eq_true (eq_true rfl) | omega | assumption) only [gb, ga, c4, c5, lrb, lra, decide_true, decide_false,  ↓vcD, vcE, evs, evP, evB, intsOf, fillC, Value.cells, pt, List.append_nil, List.nil_append, List.cons_append, List.length_cons, List.length_nil, List.filter_nil, List.map_nil, ↓List.getElem?_cons_zero, ↓List.getElem?_cons_succ, List.getElem?_cons_zero, List.getElem?_cons_succ, List.set_cons_zero, List.set_cons_succ, Option.join_some, Option.join_none, Option.map_some, List.all_cons, List.all_nil, Value.oneCell', reduceIte, reduceCtorEq, Nat.reduceEqDiff, Nat.reduceAdd, Nat.reduceMul, Nat.reduceLT, Nat.reduceBEq, Nat.reduceLeDiff, Nat.reduceSub, List.size_toArray] -- r27
          refine ITri.cond (v := false) rfl (fun h => by cases h) (fun _ => ?_)
          refine ITri.skip ?_; simp only [SeqQ_normal, BlkQ_normal]
          exact CutQ.mk () trivial (Wk.sub ⟨rfl, rfl, rfl, rfl, rfl, rfl, rfl, trivial⟩)
    try simp -implicitDefEqProofs (disch := first | decide | exact of_eq_true (eq_true rfl) | omega | assumption) only [ ↓vcD, vcE, evs, evP, evB, intsOf, fillC, Value.cells, pt, List.append_nil, List.nil_append, List.cons_append, List.length_cons, List.length_nil, List.filter_nil, List.map_nil, ↓List.getElem?_cons_zero, ↓List.getElem?_cons_succ, List.getElem?_cons_zero, List.getElem?_cons_succ, List.set_cons_zero, List.set_cons_succ, Option.join_some, Option.join_none, Option.map_some, List.all_cons, List.all_nil, Value.oneCell', reduceIte, reduceCtorEq, Nat.reduceEqDiff, Nat.reduceAdd, Nat.reduceMul, Nat.reduceLT, Nat.reduceBEq, Nat.reduceLeDiff, Nat.reduceSub, List.size_toArray]
    refine ITri.reg pokT ?_; simp -implicitDefEqProofs (disch := first | decide | exact of_eq_true (eq_true rfl) | omega | assumption) only [ ↓vcD, vcE, evs, evP, evB, intsOf, fillC, Value.cells, pt, List.append_nil, List.nil_append, List.cons_append, List.length_cons, List.length_nil, List.filter_nil, List.map_nil, ↓List.getElem?_cons_zero, ↓List.getElem?_cons_succ, List.getElem?_cons_zero, List.getElem?_cons_succ, List.set_cons_zero, List.set_cons_succ, Option.join_some, Option.join_none, Option.map_some, List.all_cons, List.all_nil, Value.oneCell', reduceIte, reduceCtorEq, Nat.reduceEqDiff, Nat.reduceAdd, Nat.reduceMul, Nat.reduceLT, Nat.reduceBEq, Nat.reduceLeDiff, Nat.reduceSub, List.size_toArray] -- r16
    refine LoopQ.next (k + 1, decide (st ≤ k), (tnS (a2, b2) (at', lot, (t : Int))).1, (tnS (a2, b2) (at', lot, (t : Int))).2) ⟨by show k + 1 ≤ n; omega, ?_, ?_⟩ (by show n - (k + 1) < n - k; omega) (Wk.gc [0, 1, 2, 3] [] (of_decide_eq_true rfl) (of_decide_eq_true rfl) rfl rfl (of_decide_eq_true rfl) rfl rfl (fun _ h => by cases h) rfl (by simp -implicitDefEqProofs (disch := first | decide | exact of_eq_true (eq_true rfl) | omega | assumption) only [objOK, sgL, xiL, objAt, nilO, OM, mvL, mv, mvS, okS, okP, mvL_rows, okML, okM, okML_rows, List.getElem?_cons_zero, Option.getD_some, implies_true, imp_self, ne_eq, and_self, ↓vcD, vcE, evs, evP, evB, intsOf, fillC, Value.cells, pt, List.append_nil, List.nil_append, List.cons_append, List.length_cons, List.length_nil, List.filter_nil, List.map_nil, ↓List.getElem?_cons_zero, ↓List.getElem?_cons_succ, List.getElem?_cons_zero, List.getElem?_cons_succ, List.set_cons_zero, List.set_cons_succ, Option.join_some, Option.join_none, Option.map_some, List.all_cons, List.all_nil, Value.oneCell', reduceIte, reduceCtorEq, Nat.reduceEqDiff, Nat.reduceAdd, Nat.reduceMul, Nat.reduceLT, Nat.reduceBEq, Nat.reduceLeDiff, Nat.reduceSub, List.size_toArray]) (by simp -implicitDefEqProofs (disch := first | decide | exact of_eq_true (eq_true rfl) | omega | assumption) only [ valOK, sgL, xiL, mv, mvA, mvL, mvS, okS, okP, okM, okMA, okML, Option.getD_some, implies_true, and_self, Int.natCast_add, Int.cast_ofNat_Int, ↓vcD, vcE, evs, evP, evB, intsOf, fillC, Value.cells, pt, List.append_nil, List.nil_append, List.cons_append, List.length_cons, List.length_nil, List.filter_nil, List.map_nil, ↓List.getElem?_cons_zero, ↓List.getElem?_cons_succ, List.getElem?_cons_zero, List.getElem?_cons_succ, List.set_cons_zero, List.set_cons_succ, Option.join_some, Option.join_none, Option.map_some, List.all_cons, List.all_nil, Value.oneCell', reduceIte, reduceCtorEq, Nat.reduceEqDiff, Nat.reduceAdd, Nat.reduceMul, Nat.reduceLT, Nat.reduceBEq, Nat.reduceLeDiff, Nat.reduceSub, List.size_toArray]) (fun _ h => by cases h) ⟨rfl, fun _ h => by cases h⟩)
    · show decide (st ≤ k) = decide (st < k + 1)
      congr 1
      exact propext ⟨fun h => by omega, fun h => by omega⟩
    · exact hnx.symm
  omega
end Go.Proofs.Ytfmcdbcoljpomaa
