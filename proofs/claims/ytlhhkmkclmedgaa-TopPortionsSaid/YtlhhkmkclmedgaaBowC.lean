/-
  Chapters 1 and 8 by names: products, quotients, Scale, MulDiv, Bow, Feed, and the law TopBows.
-/
import Derived.Test.YtlhhkmkclmedgaaBowB
import Derived.KernelRfl
set_option linter.unusedSimpArgs false
set_option linter.unusedVariables false
namespace Go.Proofs.Ytlhhkmkclmedgaa
open Go.RowKit Go.Vm
set_option maxRecDepth 100000

/- boule/units.magnitude · slots 11 · names 0:n 1:n · results [2, 3] -/
def ir66_r0 : IC := .reg [⟨some 2, none, false, .mv (.k (.int .u64 0))⟩,
  ⟨some 3, none, false, .mv (.k (.bool false))⟩] (some [0])
def ir66_r1 : IC := .reg [⟨some 4, none, false, .mv (.t 0)⟩,
  ⟨some 5, none, false, .cmp .lss (.t 4) (.k (.int .i64 0))⟩] (some [0, 5])
def ir66_r2 : IC := .reg [⟨some 6, none, false, .mv (.t 0)⟩,
  ⟨some 7, none, false, .neg (.t 6)⟩,
  ⟨some 8, none, false, .conv .u64 (.t 7)⟩,
  ⟨some 2, none, false, .mv (.t 8)⟩,
  ⟨some 3, none, false, .mv (.k (.bool true))⟩] (some [2, 3])
def ir66_1 : IC := .seq ir66_r2 .ret
def ir66_2 : IC := .cond (.t 5) ir66_1 .skip
def ir66_3 : IC := .seq ir66_r1 ir66_2
def ir66_r3 : IC := .reg [⟨some 9, none, false, .mv (.t 0)⟩,
  ⟨some 10, none, false, .conv .u64 (.t 9)⟩,
  ⟨some 2, none, false, .mv (.t 10)⟩,
  ⟨some 3, none, false, .mv (.k (.bool false))⟩] (some [2, 3])
def ir66_4 : IC := .seq ir66_r3 .ret
def ir66_5 : IC := .seq ir66_3 ir66_4
def ir66_6 : IC := .seq ir66_r0 ir66_5
def ir66 : IC := ir66_6
theorem fn66 : FnIs Try.prog 66 ir66 11 [.tmp 2, .tmp 3] := ⟨Try.f66, Try.f66.body.getD .skip, Try.func66, by kernel_rfl, by kernel_rfl, by kernel_rfl, by kernel_rfl⟩
/- boule/units.product · slots 39 · names 0:a 1:b 2:a 3:b 5:x 6:m 7:y 8:n 9:high 10:low · results [4] -/
def ir35_r0 : IC := .reg [⟨some 4, none, false, .alloc [(.int .u64 0), (.int .u64 0), (.bool false)]⟩] (some [0, 1, 4])
def ir35_r1 : IC := .reg [⟨some 12, none, false, .mv (.t 0)⟩,
  ⟨some 13, none, false, .call (.f 66) [(.t 12)]⟩,
  ⟨some 11, none, false, .mv (.t 13)⟩,
  ⟨some 14, none, false, .ext (.t 11) 0⟩,
  ⟨some 15, none, false, .ext (.t 11) 1⟩,
  ⟨some 5, none, false, .mv (.t 14)⟩,
  ⟨some 6, none, false, .mv (.t 15)⟩] (some [1, 4, 5, 6])
def ir35_r2 : IC := .reg [⟨some 17, none, false, .mv (.t 1)⟩,
  ⟨some 18, none, false, .call (.f 66) [(.t 17)]⟩,
  ⟨some 16, none, false, .mv (.t 18)⟩,
  ⟨some 19, none, false, .ext (.t 16) 0⟩,
  ⟨some 20, none, false, .ext (.t 16) 1⟩,
  ⟨some 7, none, false, .mv (.t 19)⟩,
  ⟨some 8, none, false, .mv (.t 20)⟩] (some [4, 5, 6, 7, 8])
def ir35_r3 : IC := .reg [⟨some 22, none, false, .mv (.t 5)⟩,
  ⟨some 23, none, false, .mv (.t 7)⟩,
  ⟨some 24, none, false, .call (.f 67) [(.t 22), (.t 23)]⟩,
  ⟨some 21, none, false, .mv (.t 24)⟩,
  ⟨some 25, none, false, .ext (.t 21) 0⟩,
  ⟨some 26, none, false, .ext (.t 21) 1⟩,
  ⟨some 9, none, false, .mv (.t 25)⟩,
  ⟨some 10, none, false, .mv (.t 26)⟩] (some [4, 6, 8, 9, 10])
def ir35_r4 : IC := .reg [⟨some 27, none, false, .mv (.t 9)⟩,
  ⟨some 28, none, false, .mv (.t 10)⟩,
  ⟨some 29, none, false, .mv (.t 6)⟩,
  ⟨some 30, none, false, .mv (.t 8)⟩,
  ⟨some 31, none, false, .cmpb true (.t 29) (.t 30)⟩,
  ⟨some 32, none, false, .mv (.t 31)⟩,
  ⟨some 33, some (32, true), false, .mv (.t 9)⟩,
  ⟨some 34, some (32, true), false, .mv (.t 10)⟩,
  ⟨some 35, some (32, true), false, .bits .or (.t 33) (.t 34)⟩,
  ⟨some 36, some (32, true), false, .cmp .neq (.t 35) (.k (.int .u64 0))⟩,
  ⟨some 37, none, false, .pick (.t 32) (.t 36) (.k (.bool false))⟩,
  ⟨some 38, none, false, .bld [(.int .u64 0), (.int .u64 0), (.bool false)] [(0, 1, (.t 27)), (1, 1, (.t 28)), (2, 1, (.t 37))]⟩,
  ⟨none, none, false, .st 3 (.t 4) (.t 38)⟩] (some [4])
def ir35_1 : IC := .seq ir35_r4 .ret
def ir35_2 : IC := .seq ir35_r3 ir35_1
def ir35_3 : IC := .seq ir35_r2 ir35_2
def ir35_4 : IC := .seq ir35_r1 ir35_3
def ir35_5 : IC := .seq ir35_r0 ir35_4
def ir35 : IC := ir35_5
theorem fn35 : FnIs Try.prog 35 ir35 39 [.cell 4 98] := ⟨Try.f35, Try.f35.body.getD .skip, Try.func35, by kernel_rfl, by kernel_rfl, by kernel_rfl, by kernel_rfl⟩
/- (boule/units.wide).over · slots 45 · names 0:w 1:c 2:w 3:c 4:n 5:rest 6:ok 7:q 8:r · results [4, 5, 6] -/
def ir36_r0 : IC := .reg [⟨some 2, none, false, .box (.t 0)⟩,
  ⟨some 4, none, false, .mv (.k (.int .i64 0))⟩,
  ⟨some 5, none, false, .mv (.k (.int .i64 0))⟩,
  ⟨some 6, none, false, .mv (.k (.bool false))⟩] (some [1, 2])
def ir36_r1 : IC := .reg [⟨some 9, none, false, .fad 0 (.t 2)⟩,
  ⟨some 10, none, false, .ldc (.t 9)⟩,
  ⟨some 11, none, false, .mv (.t 1)⟩,
  ⟨some 12, none, false, .conv .u64 (.t 11)⟩,
  ⟨some 13, none, false, .cmp .geq (.t 10) (.t 12)⟩] (some [1, 2, 13])
def ir36_r2 : IC := .reg [⟨some 4, none, false, .mv (.k (.int .i64 0))⟩,
  ⟨some 5, none, false, .mv (.k (.int .i64 0))⟩,
  ⟨some 6, none, false, .mv (.k (.bool false))⟩] (some [4, 5, 6])
def ir36_1 : IC := .seq ir36_r2 .ret
def ir36_2 : IC := .cond (.t 13) ir36_1 .skip
def ir36_3 : IC := .seq ir36_r1 ir36_2
def ir36_r3 : IC := .reg [⟨some 15, none, false, .fad 0 (.t 2)⟩,
  ⟨some 16, none, false, .ldc (.t 15)⟩,
  ⟨some 17, none, false, .fad 1 (.t 2)⟩,
  ⟨some 18, none, false, .ldc (.t 17)⟩,
  ⟨some 19, none, false, .mv (.t 1)⟩,
  ⟨some 20, none, false, .conv .u64 (.t 19)⟩,
  ⟨some 21, none, false, .call (.f 68) [(.t 16), (.t 18), (.t 20)]⟩,
  ⟨some 14, none, false, .mv (.t 21)⟩,
  ⟨some 22, none, false, .ext (.t 14) 0⟩,
  ⟨some 23, none, false, .ext (.t 14) 1⟩,
  ⟨some 7, none, false, .mv (.t 22)⟩,
  ⟨some 8, none, false, .mv (.t 23)⟩] (some [1, 2, 7, 8])
def ir36_r4 : IC := .reg [⟨some 24, none, false, .mv (.t 7)⟩,
  ⟨some 25, none, false, .cmp .gtr (.t 24) (.k (.int .u64 1000000000000000))⟩] (some [1, 2, 7, 8, 25])
def ir36_r5 : IC := .reg [⟨some 4, none, false, .mv (.k (.int .i64 0))⟩,
  ⟨some 5, none, false, .mv (.k (.int .i64 0))⟩,
  ⟨some 6, none, false, .mv (.k (.bool false))⟩] (some [4, 5, 6])
def ir36_4 : IC := .seq ir36_r5 .ret
def ir36_5 : IC := .cond (.t 25) ir36_4 .skip
def ir36_6 : IC := .seq ir36_r4 ir36_5
def ir36_r6 : IC := .reg [⟨some 26, none, false, .mv (.t 7)⟩,
  ⟨some 27, none, false, .conv .i64 (.t 26)⟩,
  ⟨some 28, none, false, .mv (.t 8)⟩,
  ⟨some 29, none, false, .conv .i64 (.t 28)⟩,
  ⟨some 4, none, false, .mv (.t 27)⟩,
  ⟨some 5, none, false, .mv (.t 29)⟩] (some [1, 2, 4, 5])
def ir36_r7 : IC := .reg [⟨some 30, none, false, .fad 2 (.t 2)⟩,
  ⟨some 31, none, false, .ldc (.t 30)⟩] (some [1, 4, 5, 31])
def ir36_r8 : IC := .reg [⟨some 32, none, false, .mv (.t 4)⟩,
  ⟨some 33, none, false, .neg (.t 32)⟩,
  ⟨some 34, none, false, .mv (.t 5)⟩,
  ⟨some 35, none, false, .neg (.t 34)⟩,
  ⟨some 4, none, false, .mv (.t 33)⟩,
  ⟨some 5, none, false, .mv (.t 35)⟩] (some [1, 4, 5])
def ir36_7 : IC := .cond (.t 31) ir36_r8 .skip
def ir36_8 : IC := .seq ir36_r7 ir36_7
def ir36_r9 : IC := .reg [⟨some 36, none, false, .mv (.t 5)⟩,
  ⟨some 37, none, false, .cmp .lss (.t 36) (.k (.int .i64 0))⟩] (some [1, 4, 5, 37])
def ir36_r10 : IC := .reg [⟨some 38, none, false, .mv (.t 4)⟩,
  ⟨some 39, none, false, .ar .sub (.t 38) (.k (.int .i64 1))⟩,
  ⟨some 40, none, false, .mv (.t 5)⟩,
  ⟨some 41, none, false, .mv (.t 1)⟩,
  ⟨some 42, none, false, .ar .add (.t 40) (.t 41)⟩,
  ⟨some 4, none, false, .mv (.t 39)⟩,
  ⟨some 5, none, false, .mv (.t 42)⟩] (some [4, 5])
def ir36_9 : IC := .cond (.t 37) ir36_r10 .skip
def ir36_10 : IC := .seq ir36_r9 ir36_9
def ir36_r11 : IC := .reg [⟨some 43, none, false, .mv (.t 4)⟩,
  ⟨some 44, none, false, .mv (.t 5)⟩,
  ⟨some 4, none, false, .mv (.t 43)⟩,
  ⟨some 5, none, false, .mv (.t 44)⟩,
  ⟨some 6, none, false, .mv (.k (.bool true))⟩] (some [4, 5, 6])
def ir36_11 : IC := .seq ir36_r11 .ret
def ir36_12 : IC := .seq ir36_10 ir36_11
def ir36_13 : IC := .seq ir36_8 ir36_12
def ir36_14 : IC := .seq ir36_r6 ir36_13
def ir36_15 : IC := .seq ir36_6 ir36_14
def ir36_16 : IC := .seq ir36_r3 ir36_15
def ir36_17 : IC := .seq ir36_3 ir36_16
def ir36_18 : IC := .seq ir36_r0 ir36_17
def ir36 : IC := ir36_18
theorem fn36 : FnIs Try.prog 36 ir36 45 [.tmp 4, .tmp 5, .tmp 6] := ⟨Try.f36, Try.f36.body.getD .skip, Try.func36, by kernel_rfl, by kernel_rfl, by kernel_rfl, by kernel_rfl⟩
/- boule/units.fits · slots 15 · names 0:low 1:high 2:low 3:high · results [4, 5] -/
def ir57_r0 : IC := .reg [⟨some 4, none, false, .alloc [(.int .i64 0), (.int .i64 0)]⟩,
  ⟨some 5, none, false, .mv (.k (.int .i64 0))⟩] (some [0, 1, 4])
def ir57_r1 : IC := .reg [⟨some 6, none, false, .mv (.t 0)⟩,
  ⟨some 7, none, false, .mv (.t 1)⟩,
  ⟨some 8, none, false, .bsl 1 2 [(.int .i64 0), (.int .i64 0)] [(0, (.t 6)), (1, (.t 7))]⟩,
  ⟨some 9, none, false, .call (.f 43) [(.t 8)]⟩,
  ⟨some 10, none, false, .not (.t 9)⟩] (some [0, 1, 4, 10])
def ir57_r2 : IC := .reg [⟨some 11, none, false, .bld [(.int .i64 0), (.int .i64 0)] []⟩,
  ⟨none, none, false, .st 2 (.t 4) (.t 11)⟩,
  ⟨some 5, none, false, .mv (.k (.int .i64 10))⟩] (some [4, 5])
def ir57_1 : IC := .seq ir57_r2 .ret
def ir57_2 : IC := .cond (.t 10) ir57_1 .skip
def ir57_3 : IC := .seq ir57_r1 ir57_2
def ir57_r3 : IC := .reg [⟨some 12, none, false, .mv (.t 0)⟩,
  ⟨some 13, none, false, .mv (.t 1)⟩,
  ⟨some 14, none, false, .bld [(.int .i64 0), (.int .i64 0)] [(0, 1, (.t 12)), (1, 1, (.t 13))]⟩,
  ⟨none, none, false, .st 2 (.t 4) (.t 14)⟩,
  ⟨some 5, none, false, .mv (.k (.int .i64 0))⟩] (some [4, 5])
def ir57_4 : IC := .seq ir57_r3 .ret
def ir57_5 : IC := .seq ir57_3 ir57_4
def ir57_6 : IC := .seq ir57_r0 ir57_5
def ir57 : IC := ir57_6
theorem fn57 : FnIs Try.prog 57 ir57 15 [.cell 4 23, .tmp 5] := ⟨Try.f57, Try.f57.body.getD .skip, Try.func57, by kernel_rfl, by kernel_rfl, by kernel_rfl, by kernel_rfl⟩
/- boule/slice.within · slots 15 · names 0:n 1:least 2:most 3:n 4:least 5:most · results [6] -/
def ir26_r0 : IC := .reg [⟨some 6, none, false, .mv (.k (.bool false))⟩] (some [0, 1, 2])
def ir26_r1 : IC := .reg [⟨some 7, none, false, .mv (.t 0)⟩,
  ⟨some 8, none, false, .mv (.t 1)⟩,
  ⟨some 9, none, false, .cmp .geq (.t 7) (.t 8)⟩,
  ⟨some 10, none, false, .mv (.t 9)⟩,
  ⟨some 11, some (10, true), false, .mv (.t 0)⟩,
  ⟨some 12, some (10, true), false, .mv (.t 2)⟩,
  ⟨some 13, some (10, true), false, .cmp .leq (.t 11) (.t 12)⟩,
  ⟨some 14, none, false, .pick (.t 10) (.t 13) (.k (.bool false))⟩,
  ⟨some 6, none, false, .mv (.t 14)⟩] (some [6])
def ir26_1 : IC := .seq ir26_r1 .ret
def ir26_2 : IC := .seq ir26_r0 ir26_1
def ir26 : IC := ir26_2
theorem fn26 : FnIs Try.prog 26 ir26 15 [.tmp 6] := ⟨Try.f26, Try.f26.body.getD .skip, Try.func26, by kernel_rfl, by kernel_rfl, by kernel_rfl, by kernel_rfl⟩
/- boule/slice.isRange · slots 24 · names 0:r 1:least 2:most 3:r 4:least 5:most · results [6] -/
def ir37_r0 : IC := .reg [⟨some 3, none, false, .box (.t 0)⟩,
  ⟨some 6, none, false, .mv (.k (.bool false))⟩] (some [1, 2, 3])
def ir37_r1 : IC := .reg [⟨some 7, none, false, .mv (.t 1)⟩,
  ⟨some 8, none, false, .fad 0 (.t 3)⟩,
  ⟨some 9, none, false, .ldc (.t 8)⟩,
  ⟨some 10, none, false, .cmp .leq (.t 7) (.t 9)⟩,
  ⟨some 11, none, false, .mv (.t 10)⟩,
  ⟨some 12, some (11, true), false, .fad 0 (.t 3)⟩,
  ⟨some 13, some (11, true), false, .ldc (.t 12)⟩,
  ⟨some 14, some (11, true), false, .fad 1 (.t 3)⟩,
  ⟨some 15, some (11, true), false, .ldc (.t 14)⟩,
  ⟨some 16, some (11, true), false, .cmp .leq (.t 13) (.t 15)⟩,
  ⟨some 17, none, false, .pick (.t 11) (.t 16) (.k (.bool false))⟩,
  ⟨some 18, none, false, .mv (.t 17)⟩,
  ⟨some 19, some (18, true), false, .fad 1 (.t 3)⟩,
  ⟨some 20, some (18, true), false, .ldc (.t 19)⟩,
  ⟨some 21, some (18, true), false, .mv (.t 2)⟩,
  ⟨some 22, some (18, true), false, .cmp .leq (.t 20) (.t 21)⟩,
  ⟨some 23, none, false, .pick (.t 18) (.t 22) (.k (.bool false))⟩,
  ⟨some 6, none, false, .mv (.t 23)⟩] (some [6])
def ir37_1 : IC := .seq ir37_r1 .ret
def ir37_2 : IC := .seq ir37_r0 ir37_1
def ir37 : IC := ir37_2
theorem fn37 : FnIs Try.prog 37 ir37 24 [.tmp 6] := ⟨Try.f37, Try.f37.body.getD .skip, Try.func37, by kernel_rfl, by kernel_rfl, by kernel_rfl, by kernel_rfl⟩
/- boule/slice.isForce · slots 8 · names 0:n 1:least 2:n 3:least · results [4] -/
def ir38_r0 : IC := .reg [⟨some 4, none, false, .mv (.k (.bool false))⟩] (some [0, 1])
def ir38_r1 : IC := .reg [⟨some 5, none, false, .mv (.t 0)⟩,
  ⟨some 6, none, false, .mv (.t 1)⟩,
  ⟨some 7, none, false, .call (.f 26) [(.t 5), (.t 6), (.k (.int .i64 1000000))]⟩,
  ⟨some 4, none, false, .mv (.t 7)⟩] (some [4])
def ir38_1 : IC := .seq ir38_r1 .ret
def ir38_2 : IC := .seq ir38_r0 ir38_1
def ir38 : IC := ir38_2
theorem fn38 : FnIs Try.prog 38 ir38 8 [.tmp 4] := ⟨Try.f38, Try.f38.body.getD .skip, Try.func38, by kernel_rfl, by kernel_rfl, by kernel_rfl, by kernel_rfl⟩
theorem inR_u (x : Int) (h0 : 0 ≤ x) (h1 : x < 9223372036854775808) : inR .u64 x := by simp only [inR]; omega
theorem magnitude_f (a : Int) (h0 : 0 ≤ a) (h1 : a ≤ 1000000000000000) {h : AH} (hs : h.sees 0 = true) : Fc Try.prog 66 [.int .i64 a] h (.tuple #[.int .u64 a, .bool false]) h := by
  refine Fc.lift0 ?_ rfl rfl hs
  refine Fc.intro0 fn66 (by simp) rfl rfl ?_; simp only [argF]
  refine ITri.seq ?_
  refine ITri.reg pok ?_; simp -implicitDefEqProofs (disch := first | decide | exact of_eq_true (eq_true rfl) | omega | assumption) only [ ↓vcD, vcE, ↓vcG, vcF, evs, evP, evB, intsOf, fillC, Value.cells, pt, Value.oneCell', reduceIte, reduceCtorEq, Nat.reduceEqDiff, Nat.reduceAdd, Nat.reduceMul, Nat.reduceLT, Nat.reduceBEq, Nat.reduceLeDiff, Nat.reduceSub]
  refine ITri.seq ?_
  refine ITri.seq ?_
  have g : ¬ a < 0 := by omega
  refine ITri.reg pok ?_; simp -implicitDefEqProofs (disch := first | decide | exact of_eq_true (eq_true rfl) | omega | assumption) only [g, decide_false,  ↓vcD, vcE, ↓vcG, vcF, evs, evP, evB, intsOf, fillC, Value.cells, pt, Value.oneCell', reduceIte, reduceCtorEq, Nat.reduceEqDiff, Nat.reduceAdd, Nat.reduceMul, Nat.reduceLT, Nat.reduceBEq, Nat.reduceLeDiff, Nat.reduceSub]
  refine ITri.cond (v := false) rfl (fun h => by cases h) (fun _ => ?_); refine ITri.skip ?_; simp only [SeqQ_normal, BlkQ_normal]
  refine ITri.seq ?_
  refine ITri.reg pok ?_; simp -implicitDefEqProofs (disch := first | decide | exact of_eq_true (eq_true rfl) | omega | assumption) only [ ↓vcD, vcE, ↓vcG, vcF, evs, evP, evB, intsOf, fillC, Value.cells, pt, Value.oneCell', reduceIte, reduceCtorEq, Nat.reduceEqDiff, Nat.reduceAdd, Nat.reduceMul, Nat.reduceLT, Nat.reduceBEq, Nat.reduceLeDiff, Nat.reduceSub]
  refine ITri.ret ?_; exact EndR.plain (by simp) (by rfl) (by rfl) (by rfl)
theorem product_f (x y : Int) (hx : 0 ≤ x) (hy : 0 ≤ y) (hx1 : x ≤ 1000000000000000) (hy1 : y ≤ 1000000000000000) (hxy : x * y < 9223372036854775808) {h : AH} (hs : h.sees 0 = true) :
    Fc Try.prog 35 [.int .i64 x, .int .i64 y] h (.agg #[.int .u64 0, .int .u64 (x * y), .bool false]) h := by
  refine Fc.lift0 ?_ rfl rfl hs
  have hm : ∀ {h : AH}, Fc Try.prog 67 [.int .u64 x, .int .u64 y] h (.tuple #[.int .u64 0, .int .u64 (x * y)]) h := mul64_f x y hx hy hx1 hy1 hxy
  generalize x * y = z at *
  refine Fc.intro0 fn35 (by simp) rfl rfl ?_; simp only [argF]
  refine ITri.seq ?_
  refine ITri.reg pok ?_; simp -implicitDefEqProofs (disch := first | decide | exact of_eq_true (eq_true rfl) | omega | assumption) only [ ↓vcD, vcE, ↓vcG, vcF, evs, evP, evB, intsOf, fillC, Value.cells, pt, Value.oneCell', reduceIte, reduceCtorEq, Nat.reduceEqDiff, Nat.reduceAdd, Nat.reduceMul, Nat.reduceLT, Nat.reduceBEq, Nat.reduceLeDiff, Nat.reduceSub]
  refine ITri.seq ?_
  refine ITri.reg pok ?_; simp -implicitDefEqProofs (disch := first | decide | exact of_eq_true (eq_true rfl) | omega | assumption) only [ ↓vcD, vcE, ↓vcG, vcF, evs, evP, evB, intsOf, fillC, Value.cells, pt, Value.oneCell', reduceIte, reduceCtorEq, Nat.reduceEqDiff, Nat.reduceAdd, Nat.reduceMul, Nat.reduceLT, Nat.reduceBEq, Nat.reduceLeDiff, Nat.reduceSub]
  refine ⟨_, _, magnitude_f x hx hx1 (sees0 rfl (of_decide_eq_true rfl)), ?_⟩
  try simp -implicitDefEqProofs (disch := first | decide | exact of_eq_true (eq_true rfl) | omega | assumption) only [ ↓vcD, vcE, ↓vcG, vcF, evs, evP, evB, intsOf, fillC, Value.cells, pt, Value.oneCell', reduceIte, reduceCtorEq, Nat.reduceEqDiff, Nat.reduceAdd, Nat.reduceMul, Nat.reduceLT, Nat.reduceBEq, Nat.reduceLeDiff, Nat.reduceSub]
  refine ITri.seq ?_
  refine ITri.reg pok ?_; simp -implicitDefEqProofs (disch := first | decide | exact of_eq_true (eq_true rfl) | omega | assumption) only [ ↓vcD, vcE, ↓vcG, vcF, evs, evP, evB, intsOf, fillC, Value.cells, pt, Value.oneCell', reduceIte, reduceCtorEq, Nat.reduceEqDiff, Nat.reduceAdd, Nat.reduceMul, Nat.reduceLT, Nat.reduceBEq, Nat.reduceLeDiff, Nat.reduceSub]
  refine ⟨_, _, magnitude_f y hy hy1 (sees0 rfl (of_decide_eq_true rfl)), ?_⟩
  try simp -implicitDefEqProofs (disch := first | decide | exact of_eq_true (eq_true rfl) | omega | assumption) only [ ↓vcD, vcE, ↓vcG, vcF, evs, evP, evB, intsOf, fillC, Value.cells, pt, Value.oneCell', reduceIte, reduceCtorEq, Nat.reduceEqDiff, Nat.reduceAdd, Nat.reduceMul, Nat.reduceLT, Nat.reduceBEq, Nat.reduceLeDiff, Nat.reduceSub]
  refine ITri.seq ?_
  refine ITri.reg pok ?_; simp -implicitDefEqProofs (disch := first | decide | exact of_eq_true (eq_true rfl) | omega | assumption) only [ ↓vcD, vcE, ↓vcG, vcF, evs, evP, evB, intsOf, fillC, Value.cells, pt, Value.oneCell', reduceIte, reduceCtorEq, Nat.reduceEqDiff, Nat.reduceAdd, Nat.reduceMul, Nat.reduceLT, Nat.reduceBEq, Nat.reduceLeDiff, Nat.reduceSub]
  refine ⟨_, _, hm, ?_⟩
  try simp -implicitDefEqProofs (disch := first | decide | exact of_eq_true (eq_true rfl) | omega | assumption) only [ ↓vcD, vcE, ↓vcG, vcF, evs, evP, evB, intsOf, fillC, Value.cells, pt, Value.oneCell', reduceIte, reduceCtorEq, Nat.reduceEqDiff, Nat.reduceAdd, Nat.reduceMul, Nat.reduceLT, Nat.reduceBEq, Nat.reduceLeDiff, Nat.reduceSub]
  refine ITri.seq ?_
  refine ITri.reg pok ?_; simp -implicitDefEqProofs (disch := first | decide | exact of_eq_true (eq_true rfl) | omega | assumption) only [bne_self_eq_false,  ↓vcD, vcE, ↓vcG, vcF, evs, evP, evB, intsOf, fillC, Value.cells, pt, Value.oneCell', reduceIte, reduceCtorEq, Nat.reduceEqDiff, Nat.reduceAdd, Nat.reduceMul, Nat.reduceLT, Nat.reduceBEq, Nat.reduceLeDiff, Nat.reduceSub]
  refine ITri.ret ?_; exact EndR.plain (vs := [.agg ⟨[.int .u64 0, .int .u64 z, .bool false]⟩]) (by simp) (resF_agg 3 rfl (by kernel_rfl) (by simp -implicitDefEqProofs (disch := first | decide | exact of_eq_true (eq_true rfl) | omega | assumption) only [↓vcD, vcE, ↓vcG, vcF, evs, evP, evB, intsOf, fillC, Value.cells, pt, Value.oneCell', reduceIte, reduceCtorEq, Nat.reduceEqDiff, Nat.reduceAdd, Nat.reduceMul, Nat.reduceLT, Nat.reduceBEq, Nat.reduceLeDiff, Nat.reduceSub]) resF_nil) (by rfl) (by rfl)
/-- The quotient and the rest, if the quotient is a number. -/
def ovV (x c : Int) : Value := if 1000000000000000 < x / c then .tuple #[.int .i64 0, .int .i64 0, .bool false] else .tuple #[.int .i64 (x / c), .int .i64 (x % c), .bool true]
theorem over_f (x c : Int) (hx : 0 ≤ x) (hx1 : x < 9223372036854775808) (hc : 1 ≤ c) (hc1 : c ≤ 1000000000000000) {h : AH} (hs : h.sees 0 = true) :
    Fc Try.prog 36 [.agg #[.int .u64 0, .int .u64 x, .bool false], .int .i64 c] h (ovV x c) h := by
  refine Fc.lift0 ?_ rfl (by unfold ovV; split <;> rfl) hs
  have hd : ∀ {h : AH}, Fc Try.prog 68 [.int .u64 0, .int .u64 x, .int .u64 c] h (.tuple #[.int .u64 (x / c), .int .u64 (x % c)]) h := div64_f x c hx hx1 hc hc1
  have q0 : 0 ≤ x / c := Int.ediv_nonneg hx (by omega)
  have r0 : 0 ≤ x % c := Int.emod_nonneg x (by omega)
  have r1 : x % c < c := Int.emod_lt_of_pos x (by omega)
  unfold ovV
  generalize x / c = q at *
  generalize x % c = r at *
  refine Fc.intro0 fn36 (by simp) rfl rfl ?_; simp only [argF]
  refine ITri.seq ?_
  refine ITri.reg pok ?_; simp -implicitDefEqProofs (disch := first | decide | exact of_eq_true (eq_true rfl) | omega | assumption) only [ ↓vcD, vcE, ↓vcG, vcF, evs, evP, evB, intsOf, fillC, Value.cells, pt, Value.oneCell', reduceIte, reduceCtorEq, Nat.reduceEqDiff, Nat.reduceAdd, Nat.reduceMul, Nat.reduceLT, Nat.reduceBEq, Nat.reduceLeDiff, Nat.reduceSub]
  refine ITri.seq ?_
  refine ITri.seq ?_
  have g1 : ¬ c ≤ 0 := by omega
  refine ITri.reg pok ?_; simp -implicitDefEqProofs (disch := first | decide | exact of_eq_true (eq_true rfl) | omega | assumption) only [g1, decide_false,  ↓vcD, vcE, ↓vcG, vcF, evs, evP, evB, intsOf, fillC, Value.cells, pt, Value.oneCell', reduceIte, reduceCtorEq, Nat.reduceEqDiff, Nat.reduceAdd, Nat.reduceMul, Nat.reduceLT, Nat.reduceBEq, Nat.reduceLeDiff, Nat.reduceSub]
  refine ITri.cond (v := false) rfl (fun h => by cases h) (fun _ => ?_); refine ITri.skip ?_; simp only [SeqQ_normal, BlkQ_normal]
  refine ITri.seq ?_
  refine ITri.reg pok ?_; simp -implicitDefEqProofs (disch := first | decide | exact of_eq_true (eq_true rfl) | omega | assumption) only [ ↓vcD, vcE, ↓vcG, vcF, evs, evP, evB, intsOf, fillC, Value.cells, pt, Value.oneCell', reduceIte, reduceCtorEq, Nat.reduceEqDiff, Nat.reduceAdd, Nat.reduceMul, Nat.reduceLT, Nat.reduceBEq, Nat.reduceLeDiff, Nat.reduceSub]
  refine ⟨_, _, hd, ?_⟩
  try simp -implicitDefEqProofs (disch := first | decide | exact of_eq_true (eq_true rfl) | omega | assumption) only [ ↓vcD, vcE, ↓vcG, vcF, evs, evP, evB, intsOf, fillC, Value.cells, pt, Value.oneCell', reduceIte, reduceCtorEq, Nat.reduceEqDiff, Nat.reduceAdd, Nat.reduceMul, Nat.reduceLT, Nat.reduceBEq, Nat.reduceLeDiff, Nat.reduceSub]
  refine ITri.seq ?_
  refine ITri.seq ?_
  by_cases g2 : 1000000000000000 < q
  · refine ITri.reg pok ?_; simp -implicitDefEqProofs (disch := first | decide | exact of_eq_true (eq_true rfl) | omega | assumption) only [g2, decide_true,  ↓vcD, vcE, ↓vcG, vcF, evs, evP, evB, intsOf, fillC, Value.cells, pt, Value.oneCell', reduceIte, reduceCtorEq, Nat.reduceEqDiff, Nat.reduceAdd, Nat.reduceMul, Nat.reduceLT, Nat.reduceBEq, Nat.reduceLeDiff, Nat.reduceSub]
    refine ITri.cond (v := true) rfl (fun _ => ?_) (fun h => by cases h)
    refine ITri.seq ?_
    refine ITri.reg pok ?_; simp -implicitDefEqProofs (disch := first | decide | exact of_eq_true (eq_true rfl) | omega | assumption) only [ ↓vcD, vcE, ↓vcG, vcF, evs, evP, evB, intsOf, fillC, Value.cells, pt, Value.oneCell', reduceIte, reduceCtorEq, Nat.reduceEqDiff, Nat.reduceAdd, Nat.reduceMul, Nat.reduceLT, Nat.reduceBEq, Nat.reduceLeDiff, Nat.reduceSub]
    refine ITri.ret ?_; exact EndR.plain (by simp) (by rfl) (by rfl) (by rfl)
  refine ITri.reg pok ?_; simp -implicitDefEqProofs (disch := first | decide | exact of_eq_true (eq_true rfl) | omega | assumption) only [g2, decide_false,  ↓vcD, vcE, ↓vcG, vcF, evs, evP, evB, intsOf, fillC, Value.cells, pt, Value.oneCell', reduceIte, reduceCtorEq, Nat.reduceEqDiff, Nat.reduceAdd, Nat.reduceMul, Nat.reduceLT, Nat.reduceBEq, Nat.reduceLeDiff, Nat.reduceSub]
  refine ITri.cond (v := false) rfl (fun h => by cases h) (fun _ => ?_); refine ITri.skip ?_; simp only [SeqQ_normal, BlkQ_normal]
  refine ITri.seq ?_
  refine ITri.reg pok ?_; simp -implicitDefEqProofs (disch := first | decide | exact of_eq_true (eq_true rfl) | omega | assumption) only [ ↓vcD, vcE, ↓vcG, vcF, evs, evP, evB, intsOf, fillC, Value.cells, pt, Value.oneCell', reduceIte, reduceCtorEq, Nat.reduceEqDiff, Nat.reduceAdd, Nat.reduceMul, Nat.reduceLT, Nat.reduceBEq, Nat.reduceLeDiff, Nat.reduceSub]
  refine ITri.seq ?_
  refine ITri.seq ?_
  refine ITri.reg pok ?_; simp -implicitDefEqProofs (disch := first | decide | exact of_eq_true (eq_true rfl) | omega | assumption) only [ ↓vcD, vcE, ↓vcG, vcF, evs, evP, evB, intsOf, fillC, Value.cells, pt, Value.oneCell', reduceIte, reduceCtorEq, Nat.reduceEqDiff, Nat.reduceAdd, Nat.reduceMul, Nat.reduceLT, Nat.reduceBEq, Nat.reduceLeDiff, Nat.reduceSub]
  refine ITri.cond (v := false) rfl (fun h => by cases h) (fun _ => ?_); refine ITri.skip ?_; simp only [SeqQ_normal, BlkQ_normal]
  refine ITri.seq ?_
  refine ITri.seq ?_
  have g3 : ¬ r < 0 := by omega
  refine ITri.reg pok ?_; simp -implicitDefEqProofs (disch := first | decide | exact of_eq_true (eq_true rfl) | omega | assumption) only [g3, decide_false,  ↓vcD, vcE, ↓vcG, vcF, evs, evP, evB, intsOf, fillC, Value.cells, pt, Value.oneCell', reduceIte, reduceCtorEq, Nat.reduceEqDiff, Nat.reduceAdd, Nat.reduceMul, Nat.reduceLT, Nat.reduceBEq, Nat.reduceLeDiff, Nat.reduceSub]
  refine ITri.cond (v := false) rfl (fun h => by cases h) (fun _ => ?_); refine ITri.skip ?_; simp only [SeqQ_normal, BlkQ_normal]
  refine ITri.seq ?_
  refine ITri.reg pok ?_; simp -implicitDefEqProofs (disch := first | decide | exact of_eq_true (eq_true rfl) | omega | assumption) only [ ↓vcD, vcE, ↓vcG, vcF, evs, evP, evB, intsOf, fillC, Value.cells, pt, Value.oneCell', reduceIte, reduceCtorEq, Nat.reduceEqDiff, Nat.reduceAdd, Nat.reduceMul, Nat.reduceLT, Nat.reduceBEq, Nat.reduceLeDiff, Nat.reduceSub]
  refine ITri.ret ?_; exact EndR.plain (by simp) (by rfl) (by rfl) (by rfl)
theorem fits_f (a b : Int) (ha : farB a = false) (hb : farB b = false) {h : AH} (hs : h.sees 0 = true) : Fc Try.prog 57 [.int .i64 a, .int .i64 b] h (.tuple #[.agg #[.int .i64 a, .int .i64 b], .int .i64 0]) h := by
  refine Fc.lift0 ?_ rfl rfl hs
  have e : [a, b].any farB = false := by simp [ha, hb]
  refine Fc.intro0 fn57 (by simp) rfl rfl ?_; simp only [argF]
  refine ITri.seq ?_
  refine ITri.reg pok ?_; simp -implicitDefEqProofs (disch := first | decide | exact of_eq_true (eq_true rfl) | omega | assumption) only [ ↓vcD, vcE, ↓vcG, vcF, evs, evP, evB, intsOf, fillC, Value.cells, pt, Value.oneCell', reduceIte, reduceCtorEq, Nat.reduceEqDiff, Nat.reduceAdd, Nat.reduceMul, Nat.reduceLT, Nat.reduceBEq, Nat.reduceLeDiff, Nat.reduceSub]
  refine ITri.seq ?_
  refine ITri.seq ?_
  refine ITri.reg pok ?_; simp -implicitDefEqProofs (disch := first | decide | exact of_eq_true (eq_true rfl) | omega | assumption) only [ ↓vcD, vcE, ↓vcG, vcF, evs, evP, evB, intsOf, fillC, Value.cells, pt, Value.oneCell', reduceIte, reduceCtorEq, Nat.reduceEqDiff, Nat.reduceAdd, Nat.reduceMul, Nat.reduceLT, Nat.reduceBEq, Nat.reduceLeDiff, Nat.reduceSub]
  refine ⟨_, _, is_f 2 [a, b] rfl (by omega) (sees0 rfl (of_decide_eq_true rfl)) (Rd.hq rfl rfl), ?_⟩
  simp -implicitDefEqProofs (disch := first | decide | exact of_eq_true (eq_true rfl) | omega | assumption) only [e,  ↓vcD, vcE, ↓vcG, vcF, evs, evP, evB, intsOf, fillC, Value.cells, pt, Value.oneCell', reduceIte, reduceCtorEq, Nat.reduceEqDiff, Nat.reduceAdd, Nat.reduceMul, Nat.reduceLT, Nat.reduceBEq, Nat.reduceLeDiff, Nat.reduceSub]
  refine ITri.cond (v := false) rfl (fun h => by cases h) (fun _ => ?_); refine ITri.skip ?_; simp only [SeqQ_normal, BlkQ_normal]
  refine ITri.seq ?_
  refine ITri.reg pok ?_; simp -implicitDefEqProofs (disch := first | decide | exact of_eq_true (eq_true rfl) | omega | assumption) only [ ↓vcD, vcE, ↓vcG, vcF, evs, evP, evB, intsOf, fillC, Value.cells, pt, Value.oneCell', reduceIte, reduceCtorEq, Nat.reduceEqDiff, Nat.reduceAdd, Nat.reduceMul, Nat.reduceLT, Nat.reduceBEq, Nat.reduceLeDiff, Nat.reduceSub]
  refine ITri.ret ?_; exact EndR.plain (vs := [.agg ⟨[.int .i64 a, .int .i64 b]⟩, .int .i64 0]) (by simp) (resF_agg 2 rfl (by kernel_rfl) (by simp -implicitDefEqProofs (disch := first | decide | exact of_eq_true (eq_true rfl) | omega | assumption) only [↓vcD, vcE, ↓vcG, vcF, evs, evP, evB, intsOf, fillC, Value.cells, pt, Value.oneCell', reduceIte, reduceCtorEq, Nat.reduceEqDiff, Nat.reduceAdd, Nat.reduceMul, Nat.reduceLT, Nat.reduceBEq, Nat.reduceLeDiff, Nat.reduceSub]) (resF_tmp rfl resF_nil)) (by rfl) (by rfl)
/-- Between two others. -/
def inB (n a b : Int) : Bool := decide (a ≤ n) && decide (n ≤ b)
theorem within_f (n a b : Int) {h : AH} (hs : h.sees 0 = true) : Fc Try.prog 26 [.int .i64 n, .int .i64 a, .int .i64 b] h (.bool (inB n a b)) h := by
  refine Fc.lift0 ?_ rfl rfl hs
  refine Fc.intro0 fn26 (by simp) rfl rfl ?_; simp only [argF]
  refine ITri.seq ?_
  refine ITri.reg pok ?_; simp -implicitDefEqProofs (disch := first | decide | exact of_eq_true (eq_true rfl) | omega | assumption) only [ ↓vcD, vcE, ↓vcG, vcF, evs, evP, evB, intsOf, fillC, Value.cells, pt, Value.oneCell', reduceIte, reduceCtorEq, Nat.reduceEqDiff, Nat.reduceAdd, Nat.reduceMul, Nat.reduceLT, Nat.reduceBEq, Nat.reduceLeDiff, Nat.reduceSub]
  refine ITri.seq ?_
  by_cases g : a ≤ n
  · refine ITri.reg pok ?_; simp -implicitDefEqProofs (disch := first | decide | exact of_eq_true (eq_true rfl) | omega | assumption) only [g, decide_true,  ↓vcD, vcE, ↓vcG, vcF, evs, evP, evB, intsOf, fillC, Value.cells, pt, Value.oneCell', reduceIte, reduceCtorEq, Nat.reduceEqDiff, Nat.reduceAdd, Nat.reduceMul, Nat.reduceLT, Nat.reduceBEq, Nat.reduceLeDiff, Nat.reduceSub]
    refine ITri.ret ?_; exact EndR.plain (by simp) (by rfl) (by unfold inB; rw [decide_eq_true g]; rfl) (by rfl)
  · refine ITri.reg pok ?_; simp -implicitDefEqProofs (disch := first | decide | exact of_eq_true (eq_true rfl) | omega | assumption) only [g, decide_false,  ↓vcD, vcE, ↓vcG, vcF, evs, evP, evB, intsOf, fillC, Value.cells, pt, Value.oneCell', reduceIte, reduceCtorEq, Nat.reduceEqDiff, Nat.reduceAdd, Nat.reduceMul, Nat.reduceLT, Nat.reduceBEq, Nat.reduceLeDiff, Nat.reduceSub]
    refine ITri.ret ?_; exact EndR.plain (by simp) (by rfl) (by unfold inB; rw [decide_eq_false g]; rfl) (by rfl)
def rngB (l h a b : Int) : Bool := decide (a ≤ l) && decide (l ≤ h) && decide (h ≤ b)
theorem isRange_f (l k a b : Int) {h : AH} (hs : h.sees 0 = true) : Fc Try.prog 37 [.agg #[.int .i64 l, .int .i64 k], .int .i64 a, .int .i64 b] h (.bool (rngB l k a b)) h := by
  refine Fc.lift0 ?_ rfl rfl hs
  refine Fc.intro0 fn37 (by simp) rfl rfl ?_; simp only [argF]
  refine ITri.seq ?_
  refine ITri.reg pok ?_; simp -implicitDefEqProofs (disch := first | decide | exact of_eq_true (eq_true rfl) | omega | assumption) only [ ↓vcD, vcE, ↓vcG, vcF, evs, evP, evB, intsOf, fillC, Value.cells, pt, Value.oneCell', reduceIte, reduceCtorEq, Nat.reduceEqDiff, Nat.reduceAdd, Nat.reduceMul, Nat.reduceLT, Nat.reduceBEq, Nat.reduceLeDiff, Nat.reduceSub]
  refine ITri.seq ?_
  by_cases g : a ≤ l
  · by_cases g2 : l ≤ k
    · refine ITri.reg pok ?_; simp -implicitDefEqProofs (disch := first | decide | exact of_eq_true (eq_true rfl) | omega | assumption) only [g, g2, decide_true,  ↓vcD, vcE, ↓vcG, vcF, evs, evP, evB, intsOf, fillC, Value.cells, pt, Value.oneCell', reduceIte, reduceCtorEq, Nat.reduceEqDiff, Nat.reduceAdd, Nat.reduceMul, Nat.reduceLT, Nat.reduceBEq, Nat.reduceLeDiff, Nat.reduceSub]
      refine ITri.ret ?_; exact EndR.plain (by simp) (by rfl) (by unfold rngB; rw [decide_eq_true g, decide_eq_true g2]; rfl) (by rfl)
    · refine ITri.reg pok ?_; simp -implicitDefEqProofs (disch := first | decide | exact of_eq_true (eq_true rfl) | omega | assumption) only [g, g2, decide_true, decide_false,  ↓vcD, vcE, ↓vcG, vcF, evs, evP, evB, intsOf, fillC, Value.cells, pt, Value.oneCell', reduceIte, reduceCtorEq, Nat.reduceEqDiff, Nat.reduceAdd, Nat.reduceMul, Nat.reduceLT, Nat.reduceBEq, Nat.reduceLeDiff, Nat.reduceSub]
      refine ITri.ret ?_; exact EndR.plain (by simp) (by rfl) (by unfold rngB; rw [decide_eq_true g, decide_eq_false g2]; rfl) (by rfl)
  · refine ITri.reg pok ?_; simp -implicitDefEqProofs (disch := first | decide | exact of_eq_true (eq_true rfl) | omega | assumption) only [g, decide_false,  ↓vcD, vcE, ↓vcG, vcF, evs, evP, evB, intsOf, fillC, Value.cells, pt, Value.oneCell', reduceIte, reduceCtorEq, Nat.reduceEqDiff, Nat.reduceAdd, Nat.reduceMul, Nat.reduceLT, Nat.reduceBEq, Nat.reduceLeDiff, Nat.reduceSub]
    refine ITri.ret ?_; exact EndR.plain (by simp) (by rfl) (by unfold rngB; rw [decide_eq_false g]; rfl) (by rfl)
theorem isForce_f (n a : Int) {h : AH} (hs : h.sees 0 = true) : Fc Try.prog 38 [.int .i64 n, .int .i64 a] h (.bool (inB n a 1000000)) h := by
  refine Fc.lift0 ?_ rfl rfl hs
  refine Fc.intro0 fn38 (by simp) rfl rfl ?_; simp only [argF]
  refine ITri.seq ?_
  refine ITri.reg pok ?_; simp -implicitDefEqProofs (disch := first | decide | exact of_eq_true (eq_true rfl) | omega | assumption) only [ ↓vcD, vcE, ↓vcG, vcF, evs, evP, evB, intsOf, fillC, Value.cells, pt, Value.oneCell', reduceIte, reduceCtorEq, Nat.reduceEqDiff, Nat.reduceAdd, Nat.reduceMul, Nat.reduceLT, Nat.reduceBEq, Nat.reduceLeDiff, Nat.reduceSub]
  refine ITri.seq ?_
  refine ITri.reg pok ?_; simp -implicitDefEqProofs (disch := first | decide | exact of_eq_true (eq_true rfl) | omega | assumption) only [ ↓vcD, vcE, ↓vcG, vcF, evs, evP, evB, intsOf, fillC, Value.cells, pt, Value.oneCell', reduceIte, reduceCtorEq, Nat.reduceEqDiff, Nat.reduceAdd, Nat.reduceMul, Nat.reduceLT, Nat.reduceBEq, Nat.reduceLeDiff, Nat.reduceSub]
  refine ⟨_, _, within_f _ _ _ (sees0 rfl (of_decide_eq_true rfl)), ?_⟩
  try simp -implicitDefEqProofs (disch := first | decide | exact of_eq_true (eq_true rfl) | omega | assumption) only [ ↓vcD, vcE, ↓vcG, vcF, evs, evP, evB, intsOf, fillC, Value.cells, pt, Value.oneCell', reduceIte, reduceCtorEq, Nat.reduceEqDiff, Nat.reduceAdd, Nat.reduceMul, Nat.reduceLT, Nat.reduceBEq, Nat.reduceLeDiff, Nat.reduceSub]
  refine ITri.ret ?_; exact EndR.plain (by simp) (by rfl) (by rfl) (by rfl)

/- boule/units.MulDiv · slots 91 · names 0:a 1:b 2:c 3:how 4:a 5:b 6:c 7:how 8:n 9:rest 10:e 11:ok 12:odd · results [8, 9, 10] -/
def ir14_r0 : IC := .reg [⟨some 8, none, false, .mv (.k (.int .i64 0))⟩,
  ⟨some 9, none, false, .mv (.k (.int .i64 0))⟩,
  ⟨some 10, none, false, .mv (.k (.int .i64 0))⟩] (some [0, 1, 2, 3])
def ir14_r1 : IC := .reg [⟨some 14, none, false, .mv (.t 3)⟩,
  ⟨some 15, none, false, .cmp .lss (.t 14) (.k (.int .u8 1))⟩,
  ⟨some 16, none, false, .mv (.t 15)⟩,
  ⟨some 17, some (16, false), false, .mv (.t 3)⟩,
  ⟨some 18, some (16, false), false, .cmp .gtr (.t 17) (.k (.int .u8 3))⟩,
  ⟨some 19, none, false, .pick (.t 16) (.k (.bool true)) (.t 18)⟩,
  ⟨some 13, none, false, .mv (.t 19)⟩] (some [0, 1, 2, 3, 13])
def ir14_r2 : IC := .reg [⟨some 8, none, false, .mv (.k (.int .i64 0))⟩,
  ⟨some 9, none, false, .mv (.k (.int .i64 0))⟩,
  ⟨some 10, none, false, .mv (.k (.int .i64 2))⟩] (some [8, 9, 10])
def ir14_1 : IC := .seq ir14_r2 .ret
def ir14_r3 : IC := .reg [⟨some 21, none, false, .mv (.t 0)⟩,
  ⟨some 22, none, false, .mv (.t 1)⟩,
  ⟨some 23, none, false, .bsl 1 2 [(.int .i64 0), (.int .i64 0)] [(0, (.t 21)), (1, (.t 22))]⟩,
  ⟨some 24, none, false, .call (.f 43) [(.t 23)]⟩,
  ⟨some 25, none, false, .not (.t 24)⟩,
  ⟨some 26, none, false, .mv (.t 25)⟩,
  ⟨some 27, some (26, false), false, .mv (.t 2)⟩,
  ⟨some 28, some (26, false), false, .cmp .lss (.t 27) (.k (.int .i64 1))⟩,
  ⟨some 29, none, false, .pick (.t 26) (.k (.bool true)) (.t 28)⟩,
  ⟨some 30, none, false, .mv (.t 29)⟩,
  ⟨some 31, some (30, false), false, .mv (.t 2)⟩,
  ⟨some 32, some (30, false), false, .cmp .gtr (.t 31) (.k (.int .i64 1000000000000000))⟩,
  ⟨some 33, none, false, .pick (.t 30) (.k (.bool true)) (.t 32)⟩,
  ⟨some 20, none, false, .mv (.t 33)⟩] (some [0, 1, 2, 3, 20])
def ir14_r4 : IC := .reg [⟨some 8, none, false, .mv (.k (.int .i64 0))⟩,
  ⟨some 9, none, false, .mv (.k (.int .i64 0))⟩,
  ⟨some 10, none, false, .mv (.k (.int .i64 3))⟩] (some [8, 9, 10])
def ir14_2 : IC := .seq ir14_r4 .ret
def ir14_3 : IC := .cond (.t 20) ir14_2 .skip
def ir14_4 : IC := .seq ir14_r3 ir14_3
def ir14_5 : IC := .cond (.t 13) ir14_1 ir14_4
def ir14_6 : IC := .seq ir14_r1 ir14_5
def ir14_7 : IC := .block 0 ir14_6
def ir14_r5 : IC := .reg [⟨some 35, none, false, .mv (.t 0)⟩,
  ⟨some 36, none, false, .mv (.t 1)⟩,
  ⟨some 37, none, false, .call (.f 35) [(.t 35), (.t 36)]⟩,
  ⟨some 38, none, false, .mv (.t 2)⟩,
  ⟨some 39, none, false, .call (.f 36) [(.t 37), (.t 38)]⟩,
  ⟨some 34, none, false, .mv (.t 39)⟩,
  ⟨some 40, none, false, .ext (.t 34) 0⟩,
  ⟨some 41, none, false, .ext (.t 34) 1⟩,
  ⟨some 42, none, false, .ext (.t 34) 2⟩,
  ⟨some 8, none, false, .mv (.t 40)⟩,
  ⟨some 9, none, false, .mv (.t 41)⟩,
  ⟨some 11, none, false, .mv (.t 42)⟩] (some [2, 3, 8, 9, 11])
def ir14_r6 : IC := .reg [⟨some 43, none, false, .mv (.t 8)⟩,
  ⟨some 44, none, false, .bits .and (.t 43) (.k (.int .i64 1))⟩,
  ⟨some 45, none, false, .cmp .eql (.t 44) (.k (.int .i64 1))⟩,
  ⟨some 12, none, false, .mv (.t 45)⟩] (some [2, 3, 8, 9, 11, 12])
def ir14_r7 : IC := .reg [⟨some 46, none, false, .mv (.t 11)⟩,
  ⟨some 47, none, false, .mv (.t 46)⟩,
  ⟨some 48, some (47, true), false, .mv (.t 9)⟩,
  ⟨some 49, some (47, true), false, .cmp .gtr (.t 48) (.k (.int .i64 0))⟩,
  ⟨some 50, none, false, .pick (.t 47) (.t 49) (.k (.bool false))⟩,
  ⟨some 51, none, false, .mv (.t 50)⟩,
  ⟨some 52, some (51, true), false, .mv (.t 3)⟩,
  ⟨some 53, some (51, true), false, .cmp .eql (.t 52) (.k (.int .u8 2))⟩,
  ⟨some 54, some (51, true), false, .mv (.t 53)⟩,
  ⟨some 55, some (54, false), false, .mv (.t 3)⟩,
  ⟨some 56, some (54, false), false, .cmp .eql (.t 55) (.k (.int .u8 3))⟩,
  ⟨some 57, some (54, false), false, .mv (.t 56)⟩,
  ⟨some 58, some (57, true), false, .mv (.t 9)⟩,
  ⟨some 59, some (57, true), false, .mv (.t 2)⟩,
  ⟨some 60, some (57, true), false, .mv (.t 9)⟩,
  ⟨some 61, some (57, true), false, .ar .sub (.t 59) (.t 60)⟩,
  ⟨some 62, some (57, true), false, .cmp .gtr (.t 58) (.t 61)⟩,
  ⟨some 63, some (57, true), false, .mv (.t 62)⟩,
  ⟨some 64, some (63, false), false, .mv (.t 9)⟩,
  ⟨some 65, some (63, false), false, .mv (.t 2)⟩,
  ⟨some 66, some (63, false), false, .mv (.t 9)⟩,
  ⟨some 67, some (63, false), false, .ar .sub (.t 65) (.t 66)⟩,
  ⟨some 68, some (63, false), false, .cmp .eql (.t 64) (.t 67)⟩,
  ⟨some 69, some (63, false), false, .mv (.t 68)⟩,
  ⟨some 70, some (69, true), false, .mv (.t 12)⟩,
  ⟨some 71, some (63, false), false, .pick (.t 69) (.t 70) (.k (.bool false))⟩,
  ⟨some 72, some (57, true), false, .pick (.t 63) (.k (.bool true)) (.t 71)⟩,
  ⟨some 73, some (54, false), false, .pick (.t 57) (.t 72) (.k (.bool false))⟩,
  ⟨some 74, some (51, true), false, .pick (.t 54) (.k (.bool true)) (.t 73)⟩,
  ⟨some 75, none, false, .pick (.t 51) (.t 74) (.k (.bool false))⟩] (some [2, 8, 9, 11, 75])
def ir14_r8 : IC := .reg [⟨some 76, none, false, .mv (.t 8)⟩,
  ⟨some 77, none, false, .ar .add (.t 76) (.k (.int .i64 1))⟩,
  ⟨some 78, none, false, .mv (.t 9)⟩,
  ⟨some 79, none, false, .mv (.t 2)⟩,
  ⟨some 80, none, false, .ar .sub (.t 78) (.t 79)⟩,
  ⟨some 8, none, false, .mv (.t 77)⟩,
  ⟨some 9, none, false, .mv (.t 80)⟩] (some [8, 9, 11])
def ir14_8 : IC := .cond (.t 75) ir14_r8 .skip
def ir14_9 : IC := .seq ir14_r7 ir14_8
def ir14_10 : IC := .seq ir14_r6 ir14_9
def ir14_r9 : IC := .reg [⟨some 81, none, false, .mv (.t 11)⟩,
  ⟨some 82, none, false, .not (.t 81)⟩,
  ⟨some 83, none, false, .mv (.t 82)⟩,
  ⟨some 84, some (83, false), false, .mv (.t 8)⟩,
  ⟨some 85, some (83, false), false, .bsl 1 1 [(.int .i64 0)] [(0, (.t 84))]⟩,
  ⟨some 86, some (83, false), false, .call (.f 43) [(.t 85)]⟩,
  ⟨some 87, some (83, false), false, .not (.t 86)⟩,
  ⟨some 88, none, false, .pick (.t 83) (.k (.bool true)) (.t 87)⟩] (some [8, 9, 88])
def ir14_r10 : IC := .reg [⟨some 8, none, false, .mv (.k (.int .i64 0))⟩,
  ⟨some 9, none, false, .mv (.k (.int .i64 0))⟩,
  ⟨some 10, none, false, .mv (.k (.int .i64 10))⟩] (some [8, 9, 10])
def ir14_11 : IC := .seq ir14_r10 .ret
def ir14_12 : IC := .cond (.t 88) ir14_11 .skip
def ir14_13 : IC := .seq ir14_r9 ir14_12
def ir14_r11 : IC := .reg [⟨some 89, none, false, .mv (.t 8)⟩,
  ⟨some 90, none, false, .mv (.t 9)⟩,
  ⟨some 8, none, false, .mv (.t 89)⟩,
  ⟨some 9, none, false, .mv (.t 90)⟩,
  ⟨some 10, none, false, .mv (.k (.int .i64 0))⟩] (some [8, 9, 10])
def ir14_14 : IC := .seq ir14_r11 .ret
def ir14_15 : IC := .seq ir14_13 ir14_14
def ir14_16 : IC := .seq ir14_10 ir14_15
def ir14_17 : IC := .seq ir14_r5 ir14_16
def ir14_18 : IC := .seq ir14_7 ir14_17
def ir14_19 : IC := .seq ir14_r0 ir14_18
def ir14 : IC := ir14_19
theorem fn14 : FnIs Try.prog 14 ir14 91 [.tmp 8, .tmp 9, .tmp 10] := ⟨Try.f14, Try.f14.body.getD .skip, Try.func14, by kernel_rfl, by kernel_rfl, by kernel_rfl, by kernel_rfl⟩
theorem farB_no {n : Int} (h1 : -1000000000000000 ≤ n) (h2 : n ≤ 1000000000000000) : farB n = false := by
  unfold farB
  rw [decide_eq_false (by omega), decide_eq_false (by omega)]
  rfl
theorem farB_yes {n : Int} (h2 : 1000000000000000 < n) : farB n = true := by
  unfold farB
  rw [decide_eq_true h2, Bool.or_true]
theorem rng_ok {l k a b : Int} (h : rngB l k a b = true) : a ≤ l ∧ l ≤ k ∧ k ≤ b := by
  unfold rngB at h
  simp only [Bool.and_eq_true, decide_eq_true_eq] at h
  exact ⟨h.1.1, h.1.2, h.2⟩
theorem in_ok {n a b : Int} (h : inB n a b = true) : a ≤ n ∧ n ≤ b := by
  unfold inB at h
  simp only [Bool.and_eq_true, decide_eq_true_eq] at h
  exact h
end Go.Proofs.Ytlhhkmkclmedgaa
