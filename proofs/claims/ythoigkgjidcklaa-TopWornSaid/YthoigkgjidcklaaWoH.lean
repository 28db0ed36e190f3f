/-
  Chapter 11, by names: CheckChart, CheckPlan of a plan that is right.
-/
import Derived.Test.YthoigkgjidcklaaWoG
set_option linter.unusedSimpArgs false
set_option linter.unusedVariables false
namespace Go.Proofs.Ythoigkgjidcklaa
open Go.RowKit Go.Vm
set_option maxRecDepth 100000
/- boule/shop.CheckPlan$1 · slots 11 · names 0:r 1:r · results [2] -/
def ir30_r0 : IC := .reg [⟨some 1, none, false, .box (.t 0)⟩,
  ⟨some 2, none, false, .mv (.k (.bool false))⟩] (some [1])
def ir30_r1 : IC := .reg [⟨some 3, none, false, .fad 0 (.t 1)⟩,
  ⟨some 4, none, false, .ldc (.t 3)⟩,
  ⟨some 5, none, false, .call (.f 29) [(.t 4), (.k (.int .i64 1)), (.k (.int .i64 100000))]⟩,
  ⟨some 6, none, false, .mv (.t 5)⟩,
  ⟨some 7, some (6, true), false, .fad 1 (.t 1)⟩,
  ⟨some 8, some (6, true), false, .ldc (.t 7)⟩,
  ⟨some 9, some (6, true), false, .call (.f 29) [(.t 8), (.k (.int .i64 0)), (.k (.int .i64 1000000))]⟩,
  ⟨some 10, none, false, .pick (.t 6) (.t 9) (.k (.bool false))⟩,
  ⟨some 2, none, false, .mv (.t 10)⟩] (some [2])
def ir30_1 : IC := .seq ir30_r1 .ret
def ir30_2 : IC := .seq ir30_r0 ir30_1
def ir30 : IC := ir30_2
theorem fn30 : FnIs Try.prog 30 ir30 11 [.tmp 2] := ⟨Try.f30, Try.f30.body.getD .skip, Try.func30, by kernel_rfl, by kernel_rfl, by kernel_rfl, by kernel_rfl⟩
/- boule/shop.CheckPlan$2 · slots 26 · names 0:t 2:t · results [3] -/
def ir31_r0 : IC := .reg [⟨some 2, none, false, .box (.t 0)⟩,
  ⟨some 3, none, false, .mv (.k (.bool false))⟩] (some [1, 2])
def ir31_r1 : IC := .draw [(⟨some 4, none, false, .fad 0 (.t 2)⟩, false, 0, 0),
  (⟨some 5, none, false, .ldc (.t 4)⟩, false, 1, 1),
  (⟨some 6, none, false, .ldc (.t 1)⟩, false, 0, 2),
  (⟨some 7, none, false, .shf .shl (.k (.int .i64 1)) (.t 6)⟩, false, 4, 0),
  (⟨some 8, none, false, .ar .sub (.t 7) (.k (.int .i64 1))⟩, false, 12, 0),
  (⟨some 9, none, false, .call (.f 29) [(.t 5), (.k (.int .i64 0)), (.t 8)]⟩, true, 31, 0),
  (⟨some 10, none, false, .mv (.t 9)⟩, false, 63, 0),
  (⟨some 11, some (10, true), false, .fad 1 (.t 2)⟩, false, 127, 0),
  (⟨some 12, some (10, true), false, .ldc (.t 11)⟩, true, 255, 0),
  (⟨some 13, some (10, true), false, .call (.f 29) [(.t 12), (.k (.int .i64 1)), (.k (.int .i64 10))]⟩, true, 511, 0),
  (⟨some 14, none, false, .pick (.t 10) (.t 13) (.k (.bool false))⟩, false, 1023, 0),
  (⟨some 15, none, false, .mv (.t 14)⟩, false, 2047, 0),
  (⟨some 16, some (15, true), false, .fad 2 (.t 2)⟩, false, 4095, 0),
  (⟨some 17, some (15, true), false, .ldc (.t 16)⟩, true, 8191, 0),
  (⟨some 18, some (15, true), false, .call (.f 29) [(.t 17), (.k (.int .i64 0)), (.k (.int .i64 1000000))]⟩, true, 16383, 0),
  (⟨some 19, none, false, .pick (.t 15) (.t 18) (.k (.bool false))⟩, false, 32767, 0),
  (⟨some 20, none, false, .mv (.t 19)⟩, false, 65535, 0),
  (⟨some 21, some (20, true), false, .fad 3 (.t 2)⟩, false, 131071, 0),
  (⟨some 22, some (20, true), false, .lda 2 (.t 21)⟩, true, 262143, 0),
  (⟨some 23, some (20, true), false, .call (.f 32) [(.t 22)]⟩, true, 524287, 0),
  (⟨some 24, some (20, true), false, .cmp .eql (.t 23) (.k (.int .i64 0))⟩, false, 1048575, 0),
  (⟨some 25, none, false, .pick (.t 20) (.t 24) (.k (.bool false))⟩, false, 2097151, 0),
  (⟨some 3, none, false, .mv (.t 25)⟩, false, 4194303, 0)] (some [3])
def ir31_1 : IC := .seq ir31_r1 .ret
def ir31_2 : IC := .seq ir31_r0 ir31_1
def ir31 : IC := ir31_2
theorem fn31 : FnIs Try.prog 31 ir31 26 [.tmp 3] := ⟨Try.f31, Try.f31.body.getD .skip, Try.func31, by kernel_rfl, by kernel_rfl, by kernel_rfl, by kernel_rfl⟩
/- boule/shop.CheckPlan$3 · slots 14 · names 0:s 2:s · results [3] -/
def ir33_r0 : IC := .reg [⟨some 2, none, false, .box (.t 0)⟩,
  ⟨some 3, none, false, .mv (.k (.bool false))⟩] (some [1, 2])
def ir33_r1 : IC := .reg [⟨some 4, none, false, .fad 0 (.t 2)⟩,
  ⟨some 5, none, false, .ldc (.t 4)⟩,
  ⟨some 6, none, false, .ldc (.t 1)⟩,
  ⟨some 7, none, false, .ar .sub (.t 6) (.k (.int .i64 1))⟩,
  ⟨some 8, none, false, .call (.f 29) [(.t 5), (.k (.int .i64 0)), (.t 7)]⟩,
  ⟨some 9, none, false, .mv (.t 8)⟩,
  ⟨some 10, some (9, true), false, .fad 1 (.t 2)⟩,
  ⟨some 11, some (9, true), false, .ldc (.t 10)⟩,
  ⟨some 12, some (9, true), false, .call (.f 29) [(.t 11), (.k (.int .i64 0)), (.k (.int .i64 1000000))]⟩,
  ⟨some 13, none, false, .pick (.t 9) (.t 12) (.k (.bool false))⟩,
  ⟨some 3, none, false, .mv (.t 13)⟩] (some [3])
def ir33_1 : IC := .seq ir33_r1 .ret
def ir33_2 : IC := .seq ir33_r0 ir33_1
def ir33 : IC := ir33_2
theorem fn33 : FnIs Try.prog 33 ir33 14 [.tmp 3] := ⟨Try.f33, Try.f33.body.getD .skip, Try.func33, by kernel_rfl, by kernel_rfl, by kernel_rfl, by kernel_rfl⟩
/- boule/shop.CheckChart$1 · slots 24 · names 0:r 1:r · results [2] -/
def ir80_r0 : IC := .reg [⟨some 1, none, false, .box (.t 0)⟩,
  ⟨some 2, none, false, .mv (.k (.bool false))⟩] (some [1])
def ir80_r1 : IC := .reg [⟨some 3, none, false, .fad 0 (.t 1)⟩,
  ⟨some 4, none, false, .ldc (.t 3)⟩,
  ⟨some 5, none, false, .cmp .lss (.t 4) (.k (.int .i64 1))⟩,
  ⟨some 6, none, false, .mv (.t 5)⟩,
  ⟨some 7, some (6, false), false, .fad 1 (.t 1)⟩,
  ⟨some 8, some (6, false), false, .ldc (.t 7)⟩,
  ⟨some 9, some (6, false), false, .fad 0 (.t 1)⟩,
  ⟨some 10, some (6, false), false, .ldc (.t 9)⟩,
  ⟨some 11, some (6, false), false, .cmp .lss (.t 8) (.t 10)⟩,
  ⟨some 12, none, false, .pick (.t 6) (.k (.bool true)) (.t 11)⟩,
  ⟨some 13, none, false, .mv (.t 12)⟩,
  ⟨some 14, some (13, false), false, .fad 1 (.t 1)⟩,
  ⟨some 15, some (13, false), false, .ldc (.t 14)⟩,
  ⟨some 16, some (13, false), false, .cmp .gtr (.t 15) (.k (.int .i64 20))⟩,
  ⟨some 17, none, false, .pick (.t 13) (.k (.bool true)) (.t 16)⟩,
  ⟨some 18, none, false, .mv (.t 17)⟩,
  ⟨some 19, some (18, false), false, .fad 2 (.t 1)⟩,
  ⟨some 20, some (18, false), false, .ldc (.t 19)⟩,
  ⟨some 21, some (18, false), false, .call (.f 29) [(.t 20), (.k (.int .i64 0)), (.k (.int .i64 1000000))]⟩,
  ⟨some 22, some (18, false), false, .not (.t 21)⟩,
  ⟨some 23, none, false, .pick (.t 18) (.k (.bool true)) (.t 22)⟩,
  ⟨some 2, none, false, .mv (.t 23)⟩] (some [2])
def ir80_1 : IC := .seq ir80_r1 .ret
def ir80_2 : IC := .seq ir80_r0 ir80_1
def ir80 : IC := ir80_2
theorem fn80 : FnIs Try.prog 80 ir80 24 [.tmp 2] := ⟨Try.f80, Try.f80.body.getD .skip, Try.func80, by kernel_rfl, by kernel_rfl, by kernel_rfl, by kernel_rfl⟩
/- boule/shop.CheckChart · slots 20 · names 0:c 1:c 3:wrong · results [2] -/
def ir32_r0 : IC := .reg [⟨some 1, none, false, .box (.t 0)⟩,
  ⟨some 2, none, false, .mv (.k (.int .i64 0))⟩] (some [1])
def ir32_r1 : IC := .reg [⟨some 3, none, false, .mv (.f 80)⟩] (some [1, 3])
def ir32_r2 : IC := .reg [⟨some 4, none, false, .fad 0 (.t 1)⟩,
  ⟨some 5, none, false, .ldc (.t 4)⟩,
  ⟨some 6, none, false, .call (.f 29) [(.t 5), (.k (.int .i64 (-1000000))), (.k (.int .i64 1000000))]⟩,
  ⟨some 7, none, false, .not (.t 6)⟩,
  ⟨some 8, none, false, .mv (.t 7)⟩,
  ⟨some 9, some (8, false), false, .fad 1 (.t 1)⟩,
  ⟨some 10, some (8, false), false, .ldc (.t 9)⟩,
  ⟨some 11, some (8, false), false, .len (.t 10)⟩,
  ⟨some 12, some (8, false), false, .cmp .gtr (.t 11) (.k (.int .i64 8))⟩,
  ⟨some 13, none, false, .pick (.t 8) (.k (.bool true)) (.t 12)⟩,
  ⟨some 14, none, false, .mv (.t 13)⟩,
  ⟨some 15, some (14, false), false, .fad 1 (.t 1)⟩,
  ⟨some 16, some (14, false), false, .ldc (.t 15)⟩,
  ⟨some 17, some (14, false), false, .mv (.t 3)⟩,
  ⟨some 18, some (14, false), false, .call (.f 81) [(.t 16), (.t 17)]⟩,
  ⟨some 19, none, false, .pick (.t 14) (.k (.bool true)) (.t 18)⟩] (some [19])
def ir32_r3 : IC := .reg [⟨some 2, none, false, .mv (.k (.int .i64 2))⟩] (some [2])
def ir32_1 : IC := .seq ir32_r3 .ret
def ir32_2 : IC := .cond (.t 19) ir32_1 .skip
def ir32_3 : IC := .seq ir32_r2 ir32_2
def ir32_r4 : IC := .reg [⟨some 2, none, false, .mv (.k (.int .i64 0))⟩] (some [2])
def ir32_4 : IC := .seq ir32_r4 .ret
def ir32_5 : IC := .seq ir32_3 ir32_4
def ir32_6 : IC := .seq ir32_r1 ir32_5
def ir32_7 : IC := .seq ir32_r0 ir32_6
def ir32 : IC := ir32_7
theorem fn32 : FnIs Try.prog 32 ir32 20 [.tmp 2] := ⟨Try.f32, Try.f32.body.getD .skip, Try.func32, by kernel_rfl, by kernel_rfl, by kernel_rfl, by kernel_rfl⟩
/- boule/shop.CheckPlan · slots 48 · names 0:p 1:p 3:n 4:recipe 5:tool 6:step · results [2] -/
def ir9_r0 : IC := .reg [⟨some 1, none, false, .box (.t 0)⟩,
  ⟨some 2, none, false, .mv (.k (.int .i64 0))⟩] (some [1])
def ir9_r1 : IC := .reg [⟨some 7, none, false, .fad 1 (.t 1)⟩,
  ⟨some 8, none, false, .ldc (.t 7)⟩,
  ⟨some 9, none, false, .len (.t 8)⟩,
  ⟨some 3, none, false, .alloc [(.int .i64 0)]⟩,
  ⟨none, none, false, .st 1 (.t 3) (.t 9)⟩] (some [1, 3])
def ir9_r2 : IC := .reg [⟨some 10, none, false, .ldc (.t 3)⟩,
  ⟨some 11, none, false, .call (.f 29) [(.t 10), (.k (.int .i64 1)), (.k (.int .i64 8))]⟩,
  ⟨some 12, none, false, .not (.t 11)⟩,
  ⟨some 13, none, false, .mv (.t 12)⟩,
  ⟨some 14, some (13, false), false, .fad 0 (.t 1)⟩,
  ⟨some 15, some (13, false), false, .ldc (.t 14)⟩,
  ⟨some 16, some (13, false), false, .len (.t 15)⟩,
  ⟨some 17, some (13, false), false, .call (.f 29) [(.t 16), (.k (.int .i64 1)), (.k (.int .i64 8))]⟩,
  ⟨some 18, some (13, false), false, .not (.t 17)⟩,
  ⟨some 19, none, false, .pick (.t 13) (.k (.bool true)) (.t 18)⟩,
  ⟨some 20, none, false, .mv (.t 19)⟩,
  ⟨some 21, some (20, false), false, .fad 2 (.t 1)⟩,
  ⟨some 22, some (20, false), false, .ldc (.t 21)⟩,
  ⟨some 23, some (20, false), false, .len (.t 22)⟩,
  ⟨some 24, some (20, false), false, .call (.f 29) [(.t 23), (.k (.int .i64 1)), (.k (.int .i64 12))]⟩,
  ⟨some 25, some (20, false), false, .not (.t 24)⟩,
  ⟨some 26, none, false, .pick (.t 20) (.k (.bool true)) (.t 25)⟩] (some [1, 3, 26])
def ir9_r3 : IC := .reg [⟨some 2, none, false, .mv (.k (.int .i64 2))⟩] (some [2])
def ir9_1 : IC := .seq ir9_r3 .ret
def ir9_2 : IC := .cond (.t 26) ir9_1 .skip
def ir9_3 : IC := .seq ir9_r2 ir9_2
def ir9_r4 : IC := .reg [⟨some 4, none, false, .mv (.f 30)⟩] (some [1, 3, 4])
def ir9_r5 : IC := .reg [⟨some 27, none, false, .mkf 31 [] [(.t 3)]⟩,
  ⟨some 5, none, false, .mv (.t 27)⟩] (some [1, 3, 4, 5])
def ir9_r6 : IC := .reg [⟨some 28, none, false, .mkf 33 [] [(.t 3)]⟩,
  ⟨some 6, none, false, .mv (.t 28)⟩] (some [1, 4, 5, 6])
def ir9_r7 : IC := .reg [⟨some 29, none, false, .fad 1 (.t 1)⟩,
  ⟨some 30, none, false, .ldc (.t 29)⟩,
  ⟨some 31, none, false, .mv (.t 4)⟩,
  ⟨some 32, none, false, .call (.f 34) [(.t 30), (.t 31)]⟩,
  ⟨some 33, none, false, .not (.t 32)⟩,
  ⟨some 34, none, false, .mv (.t 33)⟩,
  ⟨some 35, some (34, false), false, .fad 0 (.t 1)⟩,
  ⟨some 36, some (34, false), false, .ldc (.t 35)⟩,
  ⟨some 37, some (34, false), false, .mv (.t 5)⟩,
  ⟨some 38, some (34, false), false, .call (.f 35) [(.t 36), (.t 37)]⟩,
  ⟨some 39, some (34, false), false, .not (.t 38)⟩,
  ⟨some 40, none, false, .pick (.t 34) (.k (.bool true)) (.t 39)⟩,
  ⟨some 41, none, false, .mv (.t 40)⟩,
  ⟨some 42, some (41, false), false, .fad 2 (.t 1)⟩,
  ⟨some 43, some (41, false), false, .ldc (.t 42)⟩,
  ⟨some 44, some (41, false), false, .mv (.t 6)⟩,
  ⟨some 45, some (41, false), false, .call (.f 36) [(.t 43), (.t 44)]⟩,
  ⟨some 46, some (41, false), false, .not (.t 45)⟩,
  ⟨some 47, none, false, .pick (.t 41) (.k (.bool true)) (.t 46)⟩] (some [47])
def ir9_r8 : IC := .reg [⟨some 2, none, false, .mv (.k (.int .i64 2))⟩] (some [2])
def ir9_4 : IC := .seq ir9_r8 .ret
def ir9_5 : IC := .cond (.t 47) ir9_4 .skip
def ir9_6 : IC := .seq ir9_r7 ir9_5
def ir9_r9 : IC := .reg [⟨some 2, none, false, .mv (.k (.int .i64 0))⟩] (some [2])
def ir9_7 : IC := .seq ir9_r9 .ret
def ir9_8 : IC := .seq ir9_6 ir9_7
def ir9_9 : IC := .seq ir9_r6 ir9_8
def ir9_10 : IC := .seq ir9_r5 ir9_9
def ir9_11 : IC := .seq ir9_r4 ir9_10
def ir9_12 : IC := .seq ir9_3 ir9_11
def ir9_13 : IC := .seq ir9_r1 ir9_12
def ir9_14 : IC := .seq ir9_r0 ir9_13
def ir9 : IC := ir9_14
theorem fn9 : FnIs Try.prog 9 ir9 48 [.tmp 2] := ⟨Try.f9, Try.f9.body.getD .skip, Try.func9, by kernel_rfl, by kernel_rfl, by kernel_rfl, by kernel_rfl⟩
theorem inT_yes {n a b : Int} (h1 : a ≤ n) (h2 : n ≤ b) : inT n a b = true := by
  unfold inT
  simp only [Bool.and_eq_true, decide_eq_true_eq]
  exact ⟨h1, h2⟩
theorem ov_none : ∀ n, ovI (fun _ => false) n = -1
  | 0 => rfl
  | n + 1 => by rw [ovI, ov_none n]; rfl
/-- All tools take all recipes. -/
def rcpI (n : Nat) : Int := shI .shl .i64 1 n - 1
theorem rcp_bd {n : Nat} (h : n ≤ 8) : 0 ≤ rcpI n ∧ rcpI n ≤ 255 ∧ shI .shl .i64 1 n = rcpI n + 1 := by
  refine ⟨?_, ?_, by unfold rcpI; omega⟩ <;>
  (match n, h with
  | 0, _ => decide
  | 1, _ => decide
  | 2, _ => decide
  | 3, _ => decide
  | 4, _ => decide
  | 5, _ => decide
  | 6, _ => decide
  | 7, _ => decide
  | 8, _ => decide
  | n + 9, h => omega)
section
variable {L : List (Option AObj)}
theorem plan1_f {s w : Int} (h0 : 0 < L.length) (hs : 1 ≤ s ∧ s ≤ 100000) (hw : 0 ≤ w ∧ w ≤ 1000000) : Fc Try.prog 30 [.agg ⟨[.int .i64 s, .int .i64 w]⟩] (Hp L.length L) (.bool true) (Hp L.length L) := by
  have i1 := inT_yes hs.1 hs.2
  have i2 := inT_yes hw.1 hw.2
  refine Fc.intro0 fn30 (by simp) rfl rfl ?_; simp only [argF]
  refine ITri.seq ?_
  refine ITri.reg pok ?_; simp -implicitDefEqProofs (disch := first | decide | exact of_eq_true (eq_true rfl) | omega | assumption) only [ ↓vcD, vcE, ↓vcG, vcF, evs, evP, evB, intsOf, fillC, Value.cells, pt, Value.oneCell', reduceIte, reduceCtorEq, Nat.reduceEqDiff, Nat.reduceAdd, Nat.reduceMul, Nat.reduceLT, Nat.reduceBEq, Nat.reduceLeDiff, Nat.reduceSub] -- r0
  refine ITri.seq ?_
  refine ITri.reg pok ?_; simp -implicitDefEqProofs (disch := first | decide | exact of_eq_true (eq_true rfl) | omega | assumption) only [apd_get, apd_get0, apd_set0, apd_set, List.length_append, List.append_assoc, Nat.add_assoc,  ↓vcD, vcE, ↓vcG, vcF, evs, evP, evB, intsOf, fillC, Value.cells, pt, Value.oneCell', reduceIte, reduceCtorEq, Nat.reduceEqDiff, Nat.reduceAdd, Nat.reduceMul, Nat.reduceLT, Nat.reduceBEq, Nat.reduceLeDiff, Nat.reduceSub] -- r1
  refine ⟨_, _, in_f _ _ _ (sees0 rfl (by simp)), ?_⟩
  simp -implicitDefEqProofs (disch := first | decide | exact of_eq_true (eq_true rfl) | omega | assumption) only [i1, apd_get, apd_get0, apd_set0, apd_set, List.length_append, List.append_assoc, Nat.add_assoc,  ↓vcD, vcE, ↓vcG, vcF, evs, evP, evB, intsOf, fillC, Value.cells, pt, Value.oneCell', reduceIte, reduceCtorEq, Nat.reduceEqDiff, Nat.reduceAdd, Nat.reduceMul, Nat.reduceLT, Nat.reduceBEq, Nat.reduceLeDiff, Nat.reduceSub]
  refine ⟨_, _, in_f _ _ _ (sees0 rfl (by simp)), ?_⟩
  simp -implicitDefEqProofs (disch := first | decide | exact of_eq_true (eq_true rfl) | omega | assumption) only [i2,  ↓vcD, vcE, ↓vcG, vcF, evs, evP, evB, intsOf, fillC, Value.cells, pt, Value.oneCell', reduceIte, reduceCtorEq, Nat.reduceEqDiff, Nat.reduceAdd, Nat.reduceMul, Nat.reduceLT, Nat.reduceBEq, Nat.reduceLeDiff, Nat.reduceSub]
  refine ITri.ret ?_; exact EndR.plain (by simp) (by rfl) (by rfl) (by rfl)
theorem plan3_f {r wt n : Int} {kn : Nat} (h0 : 0 < L.length) (hN : (L[kn]?).join = some (cO [.int .i64 n] 1 false)) (hn : 0 ≤ n ∧ n ≤ 1000) (hr : 0 ≤ r ∧ r < n) (hw : 0 ≤ wt ∧ wt ≤ 1000000) : Fc Try.prog 33 [.agg ⟨[.int .i64 r, .int .i64 wt]⟩, pt kn] (Hp L.length L) (.bool true) (Hp L.length L) := by
  have i1 : inT r 0 (n - 1) = true := inT_yes hr.1 (by omega)
  have i2 := inT_yes hw.1 hw.2
  have hN' := fun T => join_app (T := T) hN
  refine Fc.intro0 fn33 (by simp) rfl rfl ?_; simp only [argF]
  refine ITri.seq ?_
  refine ITri.reg pok ?_; simp -implicitDefEqProofs (disch := first | decide | exact of_eq_true (eq_true rfl) | omega | assumption) only [ ↓vcD, vcE, ↓vcG, vcF, evs, evP, evB, intsOf, fillC, Value.cells, pt, Value.oneCell', reduceIte, reduceCtorEq, Nat.reduceEqDiff, Nat.reduceAdd, Nat.reduceMul, Nat.reduceLT, Nat.reduceBEq, Nat.reduceLeDiff, Nat.reduceSub] -- r0
  refine ITri.seq ?_
  refine ITri.reg pok ?_; simp -implicitDefEqProofs (disch := first | decide | exact of_eq_true (eq_true rfl) | omega | assumption) only [apd_get, apd_get0, apd_set0, apd_set, List.length_append, List.append_assoc, Nat.add_assoc, hN',  ↓vcD, vcE, ↓vcG, vcF, evs, evP, evB, intsOf, fillC, Value.cells, pt, Value.oneCell', reduceIte, reduceCtorEq, Nat.reduceEqDiff, Nat.reduceAdd, Nat.reduceMul, Nat.reduceLT, Nat.reduceBEq, Nat.reduceLeDiff, Nat.reduceSub] -- r1
  refine ⟨_, _, in_f _ _ _ (sees0 rfl (by simp)), ?_⟩
  simp -implicitDefEqProofs (disch := first | decide | exact of_eq_true (eq_true rfl) | omega | assumption) only [i1, apd_get, apd_get0, apd_set0, apd_set, List.length_append, List.append_assoc, Nat.add_assoc,  ↓vcD, vcE, ↓vcG, vcF, evs, evP, evB, intsOf, fillC, Value.cells, pt, Value.oneCell', reduceIte, reduceCtorEq, Nat.reduceEqDiff, Nat.reduceAdd, Nat.reduceMul, Nat.reduceLT, Nat.reduceBEq, Nat.reduceLeDiff, Nat.reduceSub]
  refine ⟨_, _, in_f _ _ _ (sees0 rfl (by simp)), ?_⟩
  simp -implicitDefEqProofs (disch := first | decide | exact of_eq_true (eq_true rfl) | omega | assumption) only [i2,  ↓vcD, vcE, ↓vcG, vcF, evs, evP, evB, intsOf, fillC, Value.cells, pt, Value.oneCell', reduceIte, reduceCtorEq, Nat.reduceEqDiff, Nat.reduceAdd, Nat.reduceMul, Nat.reduceLT, Nat.reduceBEq, Nat.reduceLeDiff, Nat.reduceSub]
  refine ITri.ret ?_; exact EndR.plain (by simp) (by rfl) (by rfl) (by rfl)
theorem wrong_f (h0 : 0 < L.length) : Fc Try.prog 80 [.agg ⟨[.int .i64 1, .int .i64 1, .int .i64 0]⟩] (Hp L.length L) (.bool false) (Hp L.length L) := by
  have i1 : inT 0 0 1000000 = true := by decide
  have d1 : decide ((1 : Int) < 1) = false := rfl
  have d2 : decide ((20 : Int) < 1) = false := rfl
  have d3 : decide ((1 : Int) > 20) = false := rfl
  refine Fc.intro0 fn80 (by simp) rfl rfl ?_; simp only [argF]
  refine ITri.seq ?_
  refine ITri.reg pok ?_; simp -implicitDefEqProofs (disch := first | decide | exact of_eq_true (eq_true rfl) | omega | assumption) only [ ↓vcD, vcE, ↓vcG, vcF, evs, evP, evB, intsOf, fillC, Value.cells, pt, Value.oneCell', reduceIte, reduceCtorEq, Nat.reduceEqDiff, Nat.reduceAdd, Nat.reduceMul, Nat.reduceLT, Nat.reduceBEq, Nat.reduceLeDiff, Nat.reduceSub] -- r0
  refine ITri.seq ?_
  refine ITri.reg pok ?_; simp -implicitDefEqProofs (disch := first | decide | exact of_eq_true (eq_true rfl) | omega | assumption) only [apd_get, apd_get0, apd_set0, apd_set, List.length_append, List.append_assoc, Nat.add_assoc, d1, d2, d3,  ↓vcD, vcE, ↓vcG, vcF, evs, evP, evB, intsOf, fillC, Value.cells, pt, Value.oneCell', reduceIte, reduceCtorEq, Nat.reduceEqDiff, Nat.reduceAdd, Nat.reduceMul, Nat.reduceLT, Nat.reduceBEq, Nat.reduceLeDiff, Nat.reduceSub] -- r1
  refine ⟨_, _, in_f _ _ _ (sees0 rfl (by simp)), ?_⟩
  simp -implicitDefEqProofs (disch := first | decide | exact of_eq_true (eq_true rfl) | omega | assumption) only [i1, d1, d2, d3,  ↓vcD, vcE, ↓vcG, vcF, evs, evP, evB, intsOf, fillC, Value.cells, pt, Value.oneCell', reduceIte, reduceCtorEq, Nat.reduceEqDiff, Nat.reduceAdd, Nat.reduceMul, Nat.reduceLT, Nat.reduceBEq, Nat.reduceLeDiff, Nat.reduceSub]
  refine ITri.ret ?_; exact EndR.plain (by simp) (by rfl) (by rfl) (by rfl)
theorem chart_f {kr c z : Nat} {op : Bool} (h0 : 0 < L.length) (hR : (L[kr]?).join = some (cO [.int .i64 1, .int .i64 1, .int .i64 0] z op)) : Fc Try.prog 32 [.agg ⟨[.int .i64 0, slO kr 1 c]⟩] (Hp L.length L) (.int .i64 0) (Hp L.length L) := by
  have i1 : inT 0 (-1000000) 1000000 = true := by decide
  have hz : ∀ k, k < 1 → takeC [Value.int .i64 1, .int .i64 1, .int .i64 0] (k * 3) 3 = some [Value.int .i64 1, .int .i64 1, .int .i64 0] := fun k hk => by
    have e : k = 0 := by omega
    subst e
    rfl
  have hR' := fun T => join_app (T := T) hR
  refine Fc.intro0 fn32 (by simp) rfl rfl ?_; simp only [argF]
  refine ITri.seq ?_
  refine ITri.reg pok ?_; simp -implicitDefEqProofs (disch := first | decide | exact of_eq_true (eq_true rfl) | omega | assumption) only [ ↓vcD, vcE, ↓vcG, vcF, evs, evP, evB, intsOf, fillC, Value.cells, pt, Value.oneCell', reduceIte, reduceCtorEq, Nat.reduceEqDiff, Nat.reduceAdd, Nat.reduceMul, Nat.reduceLT, Nat.reduceBEq, Nat.reduceLeDiff, Nat.reduceSub] -- r0
  refine ITri.seq ?_
  refine ITri.reg pok ?_; simp -implicitDefEqProofs (disch := first | decide | exact of_eq_true (eq_true rfl) | omega | assumption) only [ ↓vcD, vcE, ↓vcG, vcF, evs, evP, evB, intsOf, fillC, Value.cells, pt, Value.oneCell', reduceIte, reduceCtorEq, Nat.reduceEqDiff, Nat.reduceAdd, Nat.reduceMul, Nat.reduceLT, Nat.reduceBEq, Nat.reduceLeDiff, Nat.reduceSub] -- r1
  refine ITri.seq ?_
  refine ITri.seq ?_
  refine ITri.reg pok ?_; simp -implicitDefEqProofs (disch := first | decide | exact of_eq_true (eq_true rfl) | omega | assumption) only [apd_get, apd_get0, apd_set0, apd_set, List.length_append, List.append_assoc, Nat.add_assoc,  ↓vcD, vcE, ↓vcG, vcF, evs, evP, evB, intsOf, fillC, Value.cells, pt, Value.oneCell', reduceIte, reduceCtorEq, Nat.reduceEqDiff, Nat.reduceAdd, Nat.reduceMul, Nat.reduceLT, Nat.reduceBEq, Nat.reduceLeDiff, Nat.reduceSub] -- r2
  refine ⟨_, _, in_f _ _ _ (sees0 rfl (by simp)), ?_⟩
  simp -implicitDefEqProofs (disch := first | decide | exact of_eq_true (eq_true rfl) | omega | assumption) only [i1, Bool.not_true, apd_get, apd_get0, apd_set0, apd_set, List.length_append, List.append_assoc, Nat.add_assoc, (show decide (((1 : Nat) : Int) > 8) = false from rfl),  ↓vcD, vcE, ↓vcG, vcF, evs, evP, evB, intsOf, fillC, Value.cells, pt, Value.oneCell', reduceIte, reduceCtorEq, Nat.reduceEqDiff, Nat.reduceAdd, Nat.reduceMul, Nat.reduceLT, Nat.reduceBEq, Nat.reduceLeDiff, Nat.reduceSub]
  refine ⟨_, _, containsEU_x (n := 1) (el := fun _ => [.int .i64 1, .int .i64 1, .int .i64 0]) _ (fun _ => false) (by omega) (hR' _) hz (fun k hk => Fc.relax (by simp) (wrong_f (by simp))), ?_⟩
  simp -implicitDefEqProofs (disch := first | decide | exact of_eq_true (eq_true rfl) | omega | assumption) only [(show decide (0 ≤ ovI (fun _ => false) 1) = false from rfl),  ↓vcD, vcE, ↓vcG, vcF, evs, evP, evB, intsOf, fillC, Value.cells, pt, Value.oneCell', reduceIte, reduceCtorEq, Nat.reduceEqDiff, Nat.reduceAdd, Nat.reduceMul, Nat.reduceLT, Nat.reduceBEq, Nat.reduceLeDiff, Nat.reduceSub]
  refine ITri.cond (v := false) rfl (fun h => by cases h) (fun _ => ?_); refine ITri.skip ?_; simp only [SeqQ_normal, BlkQ_normal]
  refine ITri.seq ?_
  refine ITri.reg pok ?_; simp -implicitDefEqProofs (disch := first | decide | exact of_eq_true (eq_true rfl) | omega | assumption) only [ ↓vcD, vcE, ↓vcG, vcF, evs, evP, evB, intsOf, fillC, Value.cells, pt, Value.oneCell', reduceIte, reduceCtorEq, Nat.reduceEqDiff, Nat.reduceAdd, Nat.reduceMul, Nat.reduceLT, Nat.reduceBEq, Nat.reduceLeDiff, Nat.reduceSub]
  refine ITri.ret ?_; exact EndR.plain (by simp) (by rfl) (by rfl) (by rfl)
theorem plan2_f {life : Int} {kr c z n kn : Nat} {op : Bool} (h0 : 0 < L.length) (hn : n ≤ 8) (hl : 0 ≤ life ∧ life ≤ 1000000) (hN : (L[kn]?).join = some (cO [.int .i64 n] 1 false)) (hR : (L[kr]?).join = some (cO [.int .i64 1, .int .i64 1, .int .i64 0] z op)) :
    Fc Try.prog 31 [.agg ⟨[.int .i64 (rcpI n), .int .i64 10, .int .i64 life, .int .i64 0, slO kr 1 c]⟩, pt kn] (Hp L.length L) (.bool true) (Hp L.length L) := by
  obtain ⟨b1, b2, b3⟩ := rcp_bd hn
  have e1 : rcpI n + 1 - 1 = rcpI n := by omega
  have i1 : inT (rcpI n) 0 (rcpI n) = true := inT_yes b1 (Int.le_refl _)
  have i2 : inT 10 1 10 = true := by decide
  have i3 := inT_yes hl.1 hl.2
  have hN' := fun T => join_app (T := T) hN
  have hR' := fun T => join_app (T := T) hR
  refine Fc.intro0 fn31 (by simp) rfl rfl ?_; simp only [argF]
  refine ITri.seq ?_
  refine ITri.reg pok ?_; simp -implicitDefEqProofs (disch := first | decide | exact of_eq_true (eq_true rfl) | omega | assumption) only [ ↓vcD, vcE, ↓vcG, vcF, evs, evP, evB, intsOf, fillC, Value.cells, pt, Value.oneCell', reduceIte, reduceCtorEq, Nat.reduceEqDiff, Nat.reduceAdd, Nat.reduceMul, Nat.reduceLT, Nat.reduceBEq, Nat.reduceLeDiff, Nat.reduceSub] -- r0
  refine ITri.seq ?_
  refine ITri.draw pok ?_; simp -implicitDefEqProofs (disch := first | decide | exact of_eq_true (eq_true rfl) | omega | assumption) only [apd_get, apd_get0, apd_set0, apd_set, List.length_append, List.append_assoc, Nat.add_assoc, hN', b3, e1,  ↓vcD, vcE, ↓vcG, vcF, evs, evP, evB, intsOf, fillC, Value.cells, pt, Value.oneCell', reduceIte, reduceCtorEq, Nat.reduceEqDiff, Nat.reduceAdd, Nat.reduceMul, Nat.reduceLT, Nat.reduceBEq, Nat.reduceLeDiff, Nat.reduceSub] -- r1
  refine ⟨_, _, in_f _ _ _ (sees0 rfl (by simp)), ?_⟩
  simp -implicitDefEqProofs (disch := first | decide | exact of_eq_true (eq_true rfl) | omega | assumption) only [i1, apd_get, apd_get0, apd_set0, apd_set, List.length_append, List.append_assoc, Nat.add_assoc,  ↓vcD, vcE, ↓vcG, vcF, evs, evP, evB, intsOf, fillC, Value.cells, pt, Value.oneCell', reduceIte, reduceCtorEq, Nat.reduceEqDiff, Nat.reduceAdd, Nat.reduceMul, Nat.reduceLT, Nat.reduceBEq, Nat.reduceLeDiff, Nat.reduceSub]
  refine ⟨_, _, in_f _ _ _ (sees0 rfl (by simp)), ?_⟩
  simp -implicitDefEqProofs (disch := first | decide | exact of_eq_true (eq_true rfl) | omega | assumption) only [i2, apd_get, apd_get0, apd_set0, apd_set, List.length_append, List.append_assoc, Nat.add_assoc,  ↓vcD, vcE, ↓vcG, vcF, evs, evP, evB, intsOf, fillC, Value.cells, pt, Value.oneCell', reduceIte, reduceCtorEq, Nat.reduceEqDiff, Nat.reduceAdd, Nat.reduceMul, Nat.reduceLT, Nat.reduceBEq, Nat.reduceLeDiff, Nat.reduceSub]
  refine ⟨_, _, in_f _ _ _ (sees0 rfl (by simp)), ?_⟩
  simp -implicitDefEqProofs (disch := first | decide | exact of_eq_true (eq_true rfl) | omega | assumption) only [i3, apd_get, apd_get0, apd_set0, apd_set, List.length_append, List.append_assoc, Nat.add_assoc,  ↓vcD, vcE, ↓vcG, vcF, evs, evP, evB, intsOf, fillC, Value.cells, pt, Value.oneCell', reduceIte, reduceCtorEq, Nat.reduceEqDiff, Nat.reduceAdd, Nat.reduceMul, Nat.reduceLT, Nat.reduceBEq, Nat.reduceLeDiff, Nat.reduceSub]
  refine ⟨_, _, Fc.relax (by simp) (chart_f (by simp) (hR' _)), ?_⟩
  try simp -implicitDefEqProofs (disch := first | decide | exact of_eq_true (eq_true rfl) | omega | assumption) only [ ↓vcD, vcE, ↓vcG, vcF, evs, evP, evB, intsOf, fillC, Value.cells, pt, Value.oneCell', reduceIte, reduceCtorEq, Nat.reduceEqDiff, Nat.reduceAdd, Nat.reduceMul, Nat.reduceLT, Nat.reduceBEq, Nat.reduceLeDiff, Nat.reduceSub]
  refine ITri.ret ?_; exact EndR.plain (by simp) (by rfl) (by rfl) (by rfl)
/-- CheckPlan's memory: the plan's rows. -/
abbrev plV (kt kr kq n m : Nat) : Value := .agg ⟨[slO kt 1 openB, slO kr n openB, slO kq m openB]⟩
theorem checkPlan_f {life : Int} {kt kr kq ku n m z1 z2 z3 z4 : Nat} {op1 op2 op3 op4 : Bool} {rc rt : List Rg} (h0 : 0 < L.length) (hrc : rc.length = n) (hrt : rt.length = m) (hn : 1 ≤ n ∧ n ≤ 8) (hm : 1 ≤ m ∧ m ≤ 12) (hl : 0 ≤ life ∧ life ≤ 1000000)
    (hR : (L[kr]?).join = some (cO (rows eR rc) z1 op1)) (hQ : (L[kq]?).join = some (cO (rows eR rt) z2 op2)) (hT : (L[kt]?).join = some (cO [.int .i64 (rcpI n), .int .i64 10, .int .i64 life, .int .i64 0, slO ku 1 1] z3 op3)) (hU : (L[ku]?).join = some (cO [.int .i64 1, .int .i64 1, .int .i64 0] z4 op4))
    (hrg : ∀ i, i < n → (nth rc i).1 = 5 ∧ 0 ≤ (nth rc i).2 ∧ (nth rc i).2 ≤ 1000000) (hqg : ∀ i, i < m → 0 ≤ (nth rt i).1 ∧ (nth rt i).1 < n ∧ (nth rt i).2 = 1000000) :
    Fc Try.prog 9 [plV kt kr kq n m] (Hp L.length L) (.int .i64 0) (Hp L.length L) := by
  have i1 : inT n 1 8 = true := inT_yes (by omega) (by omega)
  have i2 : inT ((1 : Nat) : Int) 1 8 = true := by decide
  have hz : ∀ k, k < 1 → takeC [Value.int .i64 (rcpI n), .int .i64 10, .int .i64 life, .int .i64 0, slO ku 1 1] (k * 5) 5 = some [Value.int .i64 (rcpI n), .int .i64 10, .int .i64 life, .int .i64 0, slO ku 1 1] := fun k hk => by
    have e : k = 0 := by omega
    subst e
    rfl
  have i3 : inT m 1 12 = true := inT_yes (by omega) (by omega)
  refine Fc.intro0 fn9 (by simp) rfl rfl ?_; simp only [argF]
  refine ITri.seq ?_
  refine ITri.reg pok ?_; simp -implicitDefEqProofs (disch := first | decide | exact of_eq_true (eq_true rfl) | omega | assumption) only [ ↓vcD, vcE, ↓vcG, vcF, evs, evP, evB, intsOf, fillC, Value.cells, pt, Value.oneCell', reduceIte, reduceCtorEq, Nat.reduceEqDiff, Nat.reduceAdd, Nat.reduceMul, Nat.reduceLT, Nat.reduceBEq, Nat.reduceLeDiff, Nat.reduceSub] -- r0
  refine ITri.seq ?_
  refine ITri.reg pok ?_; simp -implicitDefEqProofs (disch := first | decide | exact of_eq_true (eq_true rfl) | omega | assumption) only [apd_get, apd_get0, apd_set0, apd_set, List.length_append, List.append_assoc, Nat.add_assoc,  ↓vcD, vcE, ↓vcG, vcF, evs, evP, evB, intsOf, fillC, Value.cells, pt, Value.oneCell', reduceIte, reduceCtorEq, Nat.reduceEqDiff, Nat.reduceAdd, Nat.reduceMul, Nat.reduceLT, Nat.reduceBEq, Nat.reduceLeDiff, Nat.reduceSub] -- r1
  refine ITri.seq ?_
  refine ITri.seq ?_
  refine ITri.reg pok ?_; simp -implicitDefEqProofs (disch := first | decide | exact of_eq_true (eq_true rfl) | omega | assumption) only [apd_get, apd_get0, apd_set0, apd_set, List.length_append, List.append_assoc, Nat.add_assoc,  ↓vcD, vcE, ↓vcG, vcF, evs, evP, evB, intsOf, fillC, Value.cells, pt, Value.oneCell', reduceIte, reduceCtorEq, Nat.reduceEqDiff, Nat.reduceAdd, Nat.reduceMul, Nat.reduceLT, Nat.reduceBEq, Nat.reduceLeDiff, Nat.reduceSub] -- r2
  refine ⟨_, _, in_f _ _ _ (sees0 rfl (by simp)), ?_⟩
  simp -implicitDefEqProofs (disch := first | decide | exact of_eq_true (eq_true rfl) | omega | assumption) only [i1, Bool.not_true, apd_get, apd_get0, apd_set0, apd_set, List.length_append, List.append_assoc, Nat.add_assoc,  ↓vcD, vcE, ↓vcG, vcF, evs, evP, evB, intsOf, fillC, Value.cells, pt, Value.oneCell', reduceIte, reduceCtorEq, Nat.reduceEqDiff, Nat.reduceAdd, Nat.reduceMul, Nat.reduceLT, Nat.reduceBEq, Nat.reduceLeDiff, Nat.reduceSub]
  refine ⟨_, _, in_f _ _ _ (sees0 rfl (by simp)), ?_⟩
  simp -implicitDefEqProofs (disch := first | decide | exact of_eq_true (eq_true rfl) | omega | assumption) only [i2, Bool.not_true, apd_get, apd_get0, apd_set0, apd_set, List.length_append, List.append_assoc, Nat.add_assoc,  ↓vcD, vcE, ↓vcG, vcF, evs, evP, evB, intsOf, fillC, Value.cells, pt, Value.oneCell', reduceIte, reduceCtorEq, Nat.reduceEqDiff, Nat.reduceAdd, Nat.reduceMul, Nat.reduceLT, Nat.reduceBEq, Nat.reduceLeDiff, Nat.reduceSub]
  refine ⟨_, _, in_f _ _ _ (sees0 rfl (by simp)), ?_⟩
  simp -implicitDefEqProofs (disch := first | decide | exact of_eq_true (eq_true rfl) | omega | assumption) only [i3, Bool.not_true, apd_get, apd_get0, apd_set0, apd_set, List.length_append, List.append_assoc, Nat.add_assoc,  ↓vcD, vcE, ↓vcG, vcF, evs, evP, evB, intsOf, fillC, Value.cells, pt, Value.oneCell', reduceIte, reduceCtorEq, Nat.reduceEqDiff, Nat.reduceAdd, Nat.reduceMul, Nat.reduceLT, Nat.reduceBEq, Nat.reduceLeDiff, Nat.reduceSub]
  refine ITri.cond (v := false) rfl (fun h => by cases h) (fun _ => ?_); refine ITri.skip ?_; simp only [SeqQ_normal, BlkQ_normal]
  refine ITri.seq ?_
  refine ITri.reg pok ?_; simp -implicitDefEqProofs (disch := first | decide | exact of_eq_true (eq_true rfl) | omega | assumption) only [ ↓vcD, vcE, ↓vcG, vcF, evs, evP, evB, intsOf, fillC, Value.cells, pt, Value.oneCell', reduceIte, reduceCtorEq, Nat.reduceEqDiff, Nat.reduceAdd, Nat.reduceMul, Nat.reduceLT, Nat.reduceBEq, Nat.reduceLeDiff, Nat.reduceSub] -- r4
  refine ITri.seq ?_
  refine ITri.reg pok ?_; simp -implicitDefEqProofs (disch := first | decide | exact of_eq_true (eq_true rfl) | omega | assumption) only [ ↓vcD, vcE, ↓vcG, vcF, evs, evP, evB, intsOf, fillC, Value.cells, pt, Value.oneCell', reduceIte, reduceCtorEq, Nat.reduceEqDiff, Nat.reduceAdd, Nat.reduceMul, Nat.reduceLT, Nat.reduceBEq, Nat.reduceLeDiff, Nat.reduceSub] -- r5
  refine ITri.seq ?_
  refine ITri.reg pok ?_; simp -implicitDefEqProofs (disch := first | decide | exact of_eq_true (eq_true rfl) | omega | assumption) only [ ↓vcD, vcE, ↓vcG, vcF, evs, evP, evB, intsOf, fillC, Value.cells, pt, Value.oneCell', reduceIte, reduceCtorEq, Nat.reduceEqDiff, Nat.reduceAdd, Nat.reduceMul, Nat.reduceLT, Nat.reduceBEq, Nat.reduceLeDiff, Nat.reduceSub] -- r6
  refine ITri.seq ?_
  refine ITri.seq ?_
  refine ITri.reg pok ?_; simp -implicitDefEqProofs (disch := first | decide | exact of_eq_true (eq_true rfl) | omega | assumption) only [apd_get, apd_get0, apd_set0, apd_set, List.length_append, List.append_assoc, Nat.add_assoc,  ↓vcD, vcE, ↓vcG, vcF, evs, evP, evB, intsOf, fillC, Value.cells, pt, Value.oneCell', reduceIte, reduceCtorEq, Nat.reduceEqDiff, Nat.reduceAdd, Nat.reduceMul, Nat.reduceLT, Nat.reduceBEq, Nat.reduceLeDiff, Nat.reduceSub] -- r7
  have ho : ∀ j, decide (0 ≤ ovI (fun _ => false) j) = false := fun j => by rw [ov_none j]; rfl
  have hlen : ∀ T U : List (Option AObj), 0 < ((L ++ T) ++ U).length := fun T U => by rw [List.length_append, List.length_append]; omega
  have hlen3 : ∀ T U V : List (Option AObj), 0 < (((L ++ T) ++ U) ++ V).length := fun T U V => by rw [List.length_append, List.length_append, List.length_append]; omega
  have ec : ∀ x : Rg, eR x = [.int .i64 x.1, .int .i64 x.2] := fun _ => rfl
  refine ⟨_, _, Fc.relax (by simp) (everyR_f (el := fun k => eR (nth rc k)) _ (fun _ => true) (by omega) (join_app hR) (fun k hk => takeR (by omega)) (fun k hk => rfl) (fun k hk => rfl) (fun k hk T => by
    have := hrg k hk
    rw [ec]
    exact plan1_f (hlen _ _) (by omega) (by omega))), ?_⟩
  simp -implicitDefEqProofs (disch := first | decide | exact of_eq_true (eq_true rfl) | omega | assumption) only [ho, Bool.not_true, Bool.not_false, apd_get, apd_get0, apd_set0, apd_set, List.length_append, List.append_assoc, Nat.add_assoc,  ↓vcD, vcE, ↓vcG, vcF, evs, evP, evB, intsOf, fillC, Value.cells, pt, Value.oneCell', reduceIte, reduceCtorEq, Nat.reduceEqDiff, Nat.reduceAdd, Nat.reduceMul, Nat.reduceLT, Nat.reduceBEq, Nat.reduceLeDiff, Nat.reduceSub]
  refine ⟨_, _, Fc.relax (by simp) (everyT_f (n := 1) (el := fun k => [.int .i64 (rcpI n), .int .i64 10, .int .i64 life, .int .i64 0, slO ku 1 1]) _ (fun _ => true) (by omega) (join_app hT) hz (fun k hk => rfl) (fun k hk => rfl) (fun k hk T => plan2_f (z := z4) (op := op4) (hlen _ _) hn.2 hl (join_app (by rw [List.getElem?_append_right (by simp)]; simp)) (join_app (join_app hU)))), ?_⟩
  simp -implicitDefEqProofs (disch := first | decide | exact of_eq_true (eq_true rfl) | omega | assumption) only [ho, Bool.not_true, Bool.not_false, apd_get, apd_get0, apd_set0, apd_set, List.length_append, List.append_assoc, Nat.add_assoc,  ↓vcD, vcE, ↓vcG, vcF, evs, evP, evB, intsOf, fillC, Value.cells, pt, Value.oneCell', reduceIte, reduceCtorEq, Nat.reduceEqDiff, Nat.reduceAdd, Nat.reduceMul, Nat.reduceLT, Nat.reduceBEq, Nat.reduceLeDiff, Nat.reduceSub]
  refine ⟨_, _, Fc.relax (by simp) (everyQ_f (el := fun k => eR (nth rt k)) _ (fun _ => true) (by omega) (join_app hQ) (fun k hk => takeR (by omega)) (fun k hk => rfl) (fun k hk => rfl) (fun k hk T => by
    have := hqg k hk
    rw [ec]
    exact plan3_f (n := n) (hlen _ _) (join_app (by rw [List.getElem?_append_right (by simp)]; simp)) (by omega) (by omega) (by omega))), ?_⟩
  simp -implicitDefEqProofs (disch := first | decide | exact of_eq_true (eq_true rfl) | omega | assumption) only [ho, Bool.not_true, Bool.not_false,  ↓vcD, vcE, ↓vcG, vcF, evs, evP, evB, intsOf, fillC, Value.cells, pt, Value.oneCell', reduceIte, reduceCtorEq, Nat.reduceEqDiff, Nat.reduceAdd, Nat.reduceMul, Nat.reduceLT, Nat.reduceBEq, Nat.reduceLeDiff, Nat.reduceSub]
  refine ITri.cond (v := false) rfl (fun h => by cases h) (fun _ => ?_); refine ITri.skip ?_; simp only [SeqQ_normal, BlkQ_normal]
  refine ITri.seq ?_
  refine ITri.reg pok ?_; simp -implicitDefEqProofs (disch := first | decide | exact of_eq_true (eq_true rfl) | omega | assumption) only [ ↓vcD, vcE, ↓vcG, vcF, evs, evP, evB, intsOf, fillC, Value.cells, pt, Value.oneCell', reduceIte, reduceCtorEq, Nat.reduceEqDiff, Nat.reduceAdd, Nat.reduceMul, Nat.reduceLT, Nat.reduceBEq, Nat.reduceLeDiff, Nat.reduceSub]
  refine ITri.ret ?_; exact EndR.plain (by simp) (by rfl) (by rfl) (by rfl)
end
end Go.Proofs.Ythoigkgjidcklaa
