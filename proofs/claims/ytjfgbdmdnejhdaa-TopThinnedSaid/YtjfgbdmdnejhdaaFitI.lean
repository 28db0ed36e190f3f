/-
  Chapters 8 to 10 at the top: slice.Check, used, at, place, by names.
-/
import Derived.Test.YtjfgbdmdnejhdaaFitH
set_option linter.unusedSimpArgs false
set_option linter.unusedVariables false
namespace Go.Proofs.Ytjfgbdmdnejhdaa
open Go.RowKit Go.Vm
set_option maxRecDepth 100000

abbrev wirV (c : Wb) : Value := .agg #[.int .i64 c.dl, .int .i64 c.dh, .int .i64 c.wl, .int .i64 c.wh, .int .i64 c.le]
abbrev webV (c : Wb) : Value := .agg #[.int .i64 c.p, .int .i64 c.g, .int .i64 c.st, .int .i64 c.sl, .int .i64 c.sh]
abbrev sawV (c : Wb) (len : Int) : Value := .agg #[.int .i64 c.dl, .int .i64 c.dh, .int .i64 c.wl, .int .i64 c.wh, .int .i64 c.le, .int .i64 c.p, .int .i64 c.g, .int .i64 c.st, .int .i64 c.sl, .int .i64 c.sh, .int .i64 len]
/- boule/slice.isWire · slots 16 · names 0:w 1:w · results [2] -/
def ir41_r0 : IC := .reg [⟨some 1, none, false, .box (.t 0)⟩,
  ⟨some 2, none, false, .mv (.k (.bool false))⟩] (some [1])
def ir41_r1 : IC := .reg [⟨some 3, none, false, .fad 0 (.t 1)⟩,
  ⟨some 4, none, false, .lda 2 (.t 3)⟩,
  ⟨some 5, none, false, .call (.f 60) [(.t 4), (.k (.int .i64 1)), (.k (.int .i64 10000000))]⟩,
  ⟨some 6, none, false, .mv (.t 5)⟩,
  ⟨some 7, some (6, true), false, .fad 2 (.t 1)⟩,
  ⟨some 8, some (6, true), false, .lda 2 (.t 7)⟩,
  ⟨some 9, some (6, true), false, .call (.f 60) [(.t 8), (.k (.int .i64 0)), (.k (.int .i64 10000000))]⟩,
  ⟨some 10, none, false, .pick (.t 6) (.t 9) (.k (.bool false))⟩,
  ⟨some 11, none, false, .mv (.t 10)⟩,
  ⟨some 12, some (11, true), false, .fad 4 (.t 1)⟩,
  ⟨some 13, some (11, true), false, .ldc (.t 12)⟩,
  ⟨some 14, some (11, true), false, .call (.f 42) [(.t 13), (.k (.int .i64 0)), (.k (.int .i64 10000000))]⟩,
  ⟨some 15, none, false, .pick (.t 11) (.t 14) (.k (.bool false))⟩,
  ⟨some 2, none, false, .mv (.t 15)⟩] (some [2])
def ir41_1 : IC := .seq ir41_r1 .ret
def ir41_2 : IC := .seq ir41_r0 ir41_1
def ir41 : IC := ir41_2
theorem fn41 : FnIs Try.prog 41 ir41 16 [.tmp 2] := ⟨Try.f41, Try.f41.body.getD .skip, Try.func41, by kernel_rfl, by kernel_rfl, by kernel_rfl, by kernel_rfl⟩
/- boule/slice.isWidth · slots 5 · names 0:r 1:r · results [2] -/
def ir43_r0 : IC := .reg [⟨some 1, none, false, .box (.t 0)⟩,
  ⟨some 2, none, false, .mv (.k (.bool false))⟩] (some [1])
def ir43_r1 : IC := .reg [⟨some 3, none, false, .lda 2 (.t 1)⟩,
  ⟨some 4, none, false, .call (.f 60) [(.t 3), (.k (.int .i64 0)), (.k (.int .i64 10000000))]⟩,
  ⟨some 2, none, false, .mv (.t 4)⟩] (some [2])
def ir43_1 : IC := .seq ir43_r1 .ret
def ir43_2 : IC := .seq ir43_r0 ir43_1
def ir43 : IC := ir43_2
theorem fn43 : FnIs Try.prog 43 ir43 5 [.tmp 2] := ⟨Try.f43, Try.f43.body.getD .skip, Try.func43, by kernel_rfl, by kernel_rfl, by kernel_rfl, by kernel_rfl⟩
/- boule/slice.Check · slots 51 · names 0:w 1:b 2:length 3:w 4:b 5:length · results [6] -/
def ir16_r0 : IC := .reg [⟨some 3, none, false, .box (.t 0)⟩,
  ⟨some 4, none, false, .box (.t 1)⟩,
  ⟨some 6, none, false, .mv (.k (.int .i64 0))⟩] (some [2, 3, 4])
def ir16_r1 : IC := .reg [⟨some 8, none, false, .lda 5 (.t 3)⟩,
  ⟨some 9, none, false, .call (.f 41) [(.t 8)]⟩,
  ⟨some 10, none, false, .not (.t 9)⟩,
  ⟨some 11, none, false, .mv (.t 10)⟩,
  ⟨some 12, some (11, false), false, .fad 0 (.t 4)⟩,
  ⟨some 13, some (11, false), false, .ldc (.t 12)⟩,
  ⟨some 14, some (11, false), false, .call (.f 42) [(.t 13), (.k (.int .i64 1)), (.k (.int .i64 10000000))]⟩,
  ⟨some 15, some (11, false), false, .not (.t 14)⟩,
  ⟨some 16, none, false, .pick (.t 11) (.k (.bool true)) (.t 15)⟩,
  ⟨some 17, none, false, .mv (.t 16)⟩,
  ⟨some 18, some (17, false), false, .fad 1 (.t 4)⟩,
  ⟨some 19, some (17, false), false, .ldc (.t 18)⟩,
  ⟨some 20, some (17, false), false, .call (.f 42) [(.t 19), (.k (.int .i64 1)), (.k (.int .i64 2000))]⟩,
  ⟨some 21, some (17, false), false, .not (.t 20)⟩,
  ⟨some 22, none, false, .pick (.t 17) (.k (.bool true)) (.t 21)⟩,
  ⟨some 23, none, false, .mv (.t 22)⟩,
  ⟨some 24, some (23, false), false, .fad 2 (.t 4)⟩,
  ⟨some 25, some (23, false), false, .ldc (.t 24)⟩,
  ⟨some 26, some (23, false), false, .call (.f 42) [(.t 25), (.k (.int .i64 0)), (.k (.int .i64 600000000))]⟩,
  ⟨some 27, some (23, false), false, .not (.t 26)⟩,
  ⟨some 28, none, false, .pick (.t 23) (.k (.bool true)) (.t 27)⟩,
  ⟨some 29, none, false, .mv (.t 28)⟩,
  ⟨some 30, some (29, false), false, .fad 3 (.t 4)⟩,
  ⟨some 31, some (29, false), false, .lda 2 (.t 30)⟩,
  ⟨some 32, some (29, false), false, .call (.f 43) [(.t 31)]⟩,
  ⟨some 33, some (29, false), false, .not (.t 32)⟩,
  ⟨some 34, none, false, .pick (.t 29) (.k (.bool true)) (.t 33)⟩,
  ⟨some 35, none, false, .mv (.t 34)⟩,
  ⟨some 36, some (35, false), false, .fad 0 (.t 3)⟩,
  ⟨some 37, some (35, false), false, .fad 1 (.t 36)⟩,
  ⟨some 38, some (35, false), false, .ldc (.t 37)⟩,
  ⟨some 39, some (35, false), false, .fad 3 (.t 4)⟩,
  ⟨some 40, some (35, false), false, .fad 1 (.t 39)⟩,
  ⟨some 41, some (35, false), false, .ldc (.t 40)⟩,
  ⟨some 42, some (35, false), false, .ar .add (.t 38) (.t 41)⟩,
  ⟨some 43, some (35, false), false, .fad 0 (.t 4)⟩,
  ⟨some 44, some (35, false), false, .ldc (.t 43)⟩,
  ⟨some 45, some (35, false), false, .cmp .geq (.t 42) (.t 44)⟩,
  ⟨some 46, none, false, .pick (.t 35) (.k (.bool true)) (.t 45)⟩,
  ⟨some 7, none, false, .mv (.t 46)⟩] (some [2, 7])
def ir16_r2 : IC := .reg [⟨some 6, none, false, .mv (.k (.int .i64 2))⟩] (some [6])
def ir16_1 : IC := .seq ir16_r2 .ret
def ir16_r3 : IC := .reg [⟨some 48, none, false, .mv (.t 2)⟩,
  ⟨some 49, none, false, .call (.f 42) [(.t 48), (.k (.int .i64 1)), (.k (.int .i64 600000000))]⟩,
  ⟨some 50, none, false, .not (.t 49)⟩,
  ⟨some 47, none, false, .mv (.t 50)⟩] (some [47])
def ir16_r4 : IC := .reg [⟨some 6, none, false, .mv (.k (.int .i64 3))⟩] (some [6])
def ir16_2 : IC := .seq ir16_r4 .ret
def ir16_3 : IC := .cond (.t 47) ir16_2 .skip
def ir16_4 : IC := .seq ir16_r3 ir16_3
def ir16_5 : IC := .cond (.t 7) ir16_1 ir16_4
def ir16_6 : IC := .seq ir16_r1 ir16_5
def ir16_7 : IC := .block 0 ir16_6
def ir16_r5 : IC := .reg [⟨some 6, none, false, .mv (.k (.int .i64 0))⟩] (some [6])
def ir16_8 : IC := .seq ir16_r5 .ret
def ir16_9 : IC := .seq ir16_7 ir16_8
def ir16_10 : IC := .seq ir16_r0 ir16_9
def ir16 : IC := ir16_10
theorem fn16 : FnIs Try.prog 16 ir16 51 [.tmp 6] := ⟨Try.f16, Try.f16.body.getD .skip, Try.func16, by kernel_rfl, by kernel_rfl, by kernel_rfl, by kernel_rfl⟩
/- (boule/slice.saw).used · slots 25 · names 0:s 1:s · results [2] -/
def ir20_r0 : IC := .reg [⟨some 1, none, false, .box (.t 0)⟩,
  ⟨some 2, none, false, .mv (.k (.int .i64 0))⟩] (some [1])
def ir20_r1 : IC := .reg [⟨some 3, none, false, .fad 5 (.t 1)⟩,
  ⟨some 4, none, false, .fad 2 (.t 3)⟩,
  ⟨some 5, none, false, .ldc (.t 4)⟩,
  ⟨some 6, none, false, .fad 10 (.t 1)⟩,
  ⟨some 7, none, false, .ldc (.t 6)⟩,
  ⟨some 8, none, false, .cmp .geq (.t 5) (.t 7)⟩] (some [1, 8])
def ir20_r2 : IC := .reg [⟨some 2, none, false, .mv (.k (.int .i64 0))⟩] (some [2])
def ir20_1 : IC := .seq ir20_r2 .ret
def ir20_2 : IC := .cond (.t 8) ir20_1 .skip
def ir20_3 : IC := .seq ir20_r1 ir20_2
def ir20_r3 : IC := .draw [(⟨some 9, none, false, .fad 5 (.t 1)⟩, false, 0, 0),
  (⟨some 10, none, false, .fad 1 (.t 9)⟩, false, 1, 0),
  (⟨some 11, none, false, .ldc (.t 10)⟩, false, 3, 1),
  (⟨some 12, none, false, .fad 10 (.t 1)⟩, false, 0, 0),
  (⟨some 13, none, false, .ldc (.t 12)⟩, false, 8, 4),
  (⟨some 14, none, false, .fad 5 (.t 1)⟩, false, 0, 0),
  (⟨some 15, none, false, .fad 2 (.t 14)⟩, false, 32, 0),
  (⟨some 16, none, false, .ldc (.t 15)⟩, false, 96, 12),
  (⟨some 17, none, false, .ar .sub (.t 13) (.t 16)⟩, false, 248, 0),
  (⟨some 18, none, false, .ar .sub (.t 17) (.k (.int .i64 1))⟩, false, 504, 0),
  (⟨some 19, none, false, .fad 5 (.t 1)⟩, false, 0, 0),
  (⟨some 20, none, false, .fad 0 (.t 19)⟩, false, 1024, 0),
  (⟨some 21, none, false, .ldc (.t 20)⟩, false, 3072, 108),
  (⟨some 22, none, false, .div .quo (.t 18) (.t 21)⟩, false, 8184, 0),
  (⟨some 23, none, false, .ar .add (.t 22) (.k (.int .i64 1))⟩, false, 16376, 0),
  (⟨some 24, none, false, .mm true [(.t 11), (.t 23)]⟩, false, 32767, 0),
  (⟨some 2, none, false, .mv (.t 24)⟩, false, 65535, 0)] (some [2])
def ir20_4 : IC := .seq ir20_r3 .ret
def ir20_5 : IC := .seq ir20_3 ir20_4
def ir20_6 : IC := .seq ir20_r0 ir20_5
def ir20 : IC := ir20_6
theorem fn20 : FnIs Try.prog 20 ir20 25 [.tmp 2] := ⟨Try.f20, Try.f20.body.getD .skip, Try.func20, by kernel_rfl, by kernel_rfl, by kernel_rfl, by kernel_rfl⟩
/- boule/bouletop.at · slots 17 · names 0:r 1:place 2:r 3:place · results [4] -/
def ir9_r0 : IC := .reg [⟨some 2, none, false, .box (.t 0)⟩,
  ⟨some 4, none, false, .mv (.k (.int .i64 0))⟩] (some [1, 2])
def ir9_r1 : IC := .reg [⟨some 5, none, false, .fad 0 (.t 2)⟩,
  ⟨some 6, none, false, .ldc (.t 5)⟩,
  ⟨some 7, none, false, .fad 1 (.t 2)⟩,
  ⟨some 8, none, false, .ldc (.t 7)⟩,
  ⟨some 9, none, false, .fad 0 (.t 2)⟩,
  ⟨some 10, none, false, .ldc (.t 9)⟩,
  ⟨some 11, none, false, .ar .sub (.t 8) (.t 10)⟩,
  ⟨some 12, none, false, .mv (.t 1)⟩,
  ⟨some 13, none, false, .conv .i64 (.t 12)⟩,
  ⟨some 14, none, false, .ar .mul (.t 11) (.t 13)⟩,
  ⟨some 15, none, false, .div .quo (.t 14) (.k (.int .i64 255))⟩,
  ⟨some 16, none, false, .ar .add (.t 6) (.t 15)⟩,
  ⟨some 4, none, false, .mv (.t 16)⟩] (some [4])
def ir9_1 : IC := .seq ir9_r1 .ret
def ir9_2 : IC := .seq ir9_r0 ir9_1
def ir9 : IC := ir9_2
theorem fn9 : FnIs Try.prog 9 ir9 17 [.tmp 4] := ⟨Try.f9, Try.f9.body.getD .skip, Try.func9, by kernel_rfl, by kernel_rfl, by kernel_rfl, by kernel_rfl⟩
/- (boule/bouletop.Truth).place · slots 15 · names 0:t 1:i 2:t 3:i · results [4] -/
def ir10_r0 : IC := .reg [⟨some 4, none, false, .mv (.k (.int .u8 0))⟩] (some [0, 1])
def ir10_r1 : IC := .reg [⟨some 5, none, false, .mv (.t 0)⟩,
  ⟨some 6, none, false, .len (.t 5)⟩,
  ⟨some 7, none, false, .cmp .eql (.t 6) (.k (.int .i64 0))⟩] (some [0, 1, 7])
def ir10_r2 : IC := .reg [⟨some 4, none, false, .mv (.k (.int .u8 0))⟩] (some [4])
def ir10_1 : IC := .seq ir10_r2 .ret
def ir10_2 : IC := .cond (.t 7) ir10_1 .skip
def ir10_3 : IC := .seq ir10_r1 ir10_2
def ir10_r3 : IC := .reg [⟨some 8, none, false, .mv (.t 0)⟩,
  ⟨some 9, none, false, .mv (.t 1)⟩,
  ⟨some 10, none, false, .mv (.t 0)⟩,
  ⟨some 11, none, false, .len (.t 10)⟩,
  ⟨some 12, none, false, .div .rem (.t 9) (.t 11)⟩,
  ⟨some 13, none, false, .iad 1 (.t 8) (.t 12)⟩,
  ⟨some 14, none, false, .ldc (.t 13)⟩,
  ⟨some 4, none, false, .mv (.t 14)⟩] (some [4])
def ir10_4 : IC := .seq ir10_r3 .ret
def ir10_5 : IC := .seq ir10_3 ir10_4
def ir10_6 : IC := .seq ir10_r0 ir10_5
def ir10 : IC := ir10_6
theorem fn10 : FnIs Try.prog 10 ir10 15 [.tmp 4] := ⟨Try.f10, Try.f10.body.getD .skip, Try.func10, by kernel_rfl, by kernel_rfl, by kernel_rfl, by kernel_rfl⟩
theorem isWire_f (c : Wb) {h : AH} (hs : h.sees 0 = true) : Fc Try.prog 41 [wirV c] h (.bool (wireB c)) h := by
  refine Fc.lift0 ?_ rfl rfl hs
  refine Fc.intro0 fn41 (by simp) rfl rfl ?_; simp only [argF]
  unfold wireB
  refine ITri.seq ?_
  refine ITri.reg pok ?_; simp -implicitDefEqProofs (disch := first | decide | exact of_eq_true (eq_true rfl) | omega | assumption) only [ ↓vcD, vcE, ↓vcG, vcF, evs, evP, evB, intsOf, fillC, Value.cells, pt, Value.oneCell', reduceIte, reduceCtorEq, Nat.reduceEqDiff, Nat.reduceAdd, Nat.reduceMul, Nat.reduceLT, Nat.reduceBEq, Nat.reduceLeDiff, Nat.reduceSub]
  refine ITri.seq ?_
  refine ITri.reg pok ?_; simp -implicitDefEqProofs (disch := first | decide | exact of_eq_true (eq_true rfl) | omega | assumption) only [ ↓vcD, vcE, ↓vcG, vcF, evs, evP, evB, intsOf, fillC, Value.cells, pt, Value.oneCell', reduceIte, reduceCtorEq, Nat.reduceEqDiff, Nat.reduceAdd, Nat.reduceMul, Nat.reduceLT, Nat.reduceBEq, Nat.reduceLeDiff, Nat.reduceSub]
  refine ⟨_, _, isRange_f _ _ _ _ (sees0 rfl (of_decide_eq_true rfl)), ?_⟩
  cases h1 : rngB c.dl c.dh 1 10000000 with
  | false =>
    try simp -implicitDefEqProofs (disch := first | decide | exact of_eq_true (eq_true rfl) | omega | assumption) only [ ↓vcD, vcE, ↓vcG, vcF, evs, evP, evB, intsOf, fillC, Value.cells, pt, Value.oneCell', reduceIte, reduceCtorEq, Nat.reduceEqDiff, Nat.reduceAdd, Nat.reduceMul, Nat.reduceLT, Nat.reduceBEq, Nat.reduceLeDiff, Nat.reduceSub]
    refine ITri.ret ?_; exact EndR.plain (by simp) (by rfl) (by rfl) (by rfl)
  | true =>
    try simp -implicitDefEqProofs (disch := first | decide | exact of_eq_true (eq_true rfl) | omega | assumption) only [ ↓vcD, vcE, ↓vcG, vcF, evs, evP, evB, intsOf, fillC, Value.cells, pt, Value.oneCell', reduceIte, reduceCtorEq, Nat.reduceEqDiff, Nat.reduceAdd, Nat.reduceMul, Nat.reduceLT, Nat.reduceBEq, Nat.reduceLeDiff, Nat.reduceSub]
    refine ⟨_, _, isRange_f _ _ _ _ (sees0 rfl (of_decide_eq_true rfl)), ?_⟩
    cases h2 : rngB c.wl c.wh 0 10000000 with
    | false =>
      try simp -implicitDefEqProofs (disch := first | decide | exact of_eq_true (eq_true rfl) | omega | assumption) only [ ↓vcD, vcE, ↓vcG, vcF, evs, evP, evB, intsOf, fillC, Value.cells, pt, Value.oneCell', reduceIte, reduceCtorEq, Nat.reduceEqDiff, Nat.reduceAdd, Nat.reduceMul, Nat.reduceLT, Nat.reduceBEq, Nat.reduceLeDiff, Nat.reduceSub]
      refine ITri.ret ?_; exact EndR.plain (by simp) (by rfl) (by rfl) (by rfl)
    | true =>
      try simp -implicitDefEqProofs (disch := first | decide | exact of_eq_true (eq_true rfl) | omega | assumption) only [ ↓vcD, vcE, ↓vcG, vcF, evs, evP, evB, intsOf, fillC, Value.cells, pt, Value.oneCell', reduceIte, reduceCtorEq, Nat.reduceEqDiff, Nat.reduceAdd, Nat.reduceMul, Nat.reduceLT, Nat.reduceBEq, Nat.reduceLeDiff, Nat.reduceSub]
      refine ⟨_, _, within_f _ _ _ (sees0 rfl (of_decide_eq_true rfl)), ?_⟩
      try simp -implicitDefEqProofs (disch := first | decide | exact of_eq_true (eq_true rfl) | omega | assumption) only [ ↓vcD, vcE, ↓vcG, vcF, evs, evP, evB, intsOf, fillC, Value.cells, pt, Value.oneCell', reduceIte, reduceCtorEq, Nat.reduceEqDiff, Nat.reduceAdd, Nat.reduceMul, Nat.reduceLT, Nat.reduceBEq, Nat.reduceLeDiff, Nat.reduceSub]
      refine ITri.ret ?_; exact EndR.plain (by simp) (by rfl) (by rfl) (by rfl)
theorem isWidth_f (l k : Int) {h : AH} (hs : h.sees 0 = true) : Fc Try.prog 43 [.agg #[.int .i64 l, .int .i64 k]] h (.bool (rngB l k 0 10000000)) h := by
  refine Fc.lift0 ?_ rfl rfl hs
  refine Fc.intro0 fn43 (by simp) rfl rfl ?_; simp only [argF]
  refine ITri.seq ?_
  refine ITri.reg pok ?_; simp -implicitDefEqProofs (disch := first | decide | exact of_eq_true (eq_true rfl) | omega | assumption) only [ ↓vcD, vcE, ↓vcG, vcF, evs, evP, evB, intsOf, fillC, Value.cells, pt, Value.oneCell', reduceIte, reduceCtorEq, Nat.reduceEqDiff, Nat.reduceAdd, Nat.reduceMul, Nat.reduceLT, Nat.reduceBEq, Nat.reduceLeDiff, Nat.reduceSub]
  refine ITri.seq ?_
  refine ITri.reg pok ?_; simp -implicitDefEqProofs (disch := first | decide | exact of_eq_true (eq_true rfl) | omega | assumption) only [ ↓vcD, vcE, ↓vcG, vcF, evs, evP, evB, intsOf, fillC, Value.cells, pt, Value.oneCell', reduceIte, reduceCtorEq, Nat.reduceEqDiff, Nat.reduceAdd, Nat.reduceMul, Nat.reduceLT, Nat.reduceBEq, Nat.reduceLeDiff, Nat.reduceSub]
  refine ⟨_, _, isRange_f _ _ _ _ (sees0 rfl (of_decide_eq_true rfl)), ?_⟩
  try simp -implicitDefEqProofs (disch := first | decide | exact of_eq_true (eq_true rfl) | omega | assumption) only [ ↓vcD, vcE, ↓vcG, vcF, evs, evP, evB, intsOf, fillC, Value.cells, pt, Value.oneCell', reduceIte, reduceCtorEq, Nat.reduceEqDiff, Nat.reduceAdd, Nat.reduceMul, Nat.reduceLT, Nat.reduceBEq, Nat.reduceLeDiff, Nat.reduceSub]
  refine ITri.ret ?_; exact EndR.plain (by simp) (by rfl) (by rfl) (by rfl)
theorem check_f (c : Wb) (len : Int) {h : AH} (hs : h.sees 0 = true) : Fc Try.prog 16 [wirV c, webV c, .int .i64 len] h (.int .i64 (ckE c len)) h := by
  refine Fc.lift0 ?_ rfl rfl hs
  refine Fc.intro0 fn16 (by simp) rfl rfl ?_; simp only [argF]
  refine ITri.seq ?_
  refine ITri.reg pok ?_; simp -implicitDefEqProofs (disch := first | decide | exact of_eq_true (eq_true rfl) | omega | assumption) only [ ↓vcD, vcE, ↓vcG, vcF, evs, evP, evB, intsOf, fillC, Value.cells, pt, Value.oneCell', reduceIte, reduceCtorEq, Nat.reduceEqDiff, Nat.reduceAdd, Nat.reduceMul, Nat.reduceLT, Nat.reduceBEq, Nat.reduceLeDiff, Nat.reduceSub] -- r0 slice.go:28
  refine ITri.seq ?_
  refine ITri.block ?_ -- 0
  refine ITri.seq ?_
  refine ITri.one (P := Try.prog) [(2, .int .i64 len), (7, .bool (!ckB c))] ?_ ?_
  · unfold ckB
    refine ITri.reg pok ?_; simp -implicitDefEqProofs (disch := first | decide | exact of_eq_true (eq_true rfl) | omega | assumption) only [ ↓vcD, vcE, ↓vcG, vcF, evs, evP, evB, intsOf, fillC, Value.cells, pt, Value.oneCell', reduceIte, reduceCtorEq, Nat.reduceEqDiff, Nat.reduceAdd, Nat.reduceMul, Nat.reduceLT, Nat.reduceBEq, Nat.reduceLeDiff, Nat.reduceSub] -- r1
    refine ⟨_, _, isWire_f c (sees0 rfl (of_decide_eq_true rfl)), ?_⟩
    cases h1 : wireB c with
    | false => try simp -implicitDefEqProofs (disch := first | decide | exact of_eq_true (eq_true rfl) | omega | assumption) only [ ↓vcD, vcE, ↓vcG, vcF, evs, evP, evB, intsOf, fillC, Value.cells, pt, Value.oneCell', reduceIte, reduceCtorEq, Nat.reduceEqDiff, Nat.reduceAdd, Nat.reduceMul, Nat.reduceLT, Nat.reduceBEq, Nat.reduceLeDiff, Nat.reduceSub]
    | true =>
    try simp -implicitDefEqProofs (disch := first | decide | exact of_eq_true (eq_true rfl) | omega | assumption) only [ ↓vcD, vcE, ↓vcG, vcF, evs, evP, evB, intsOf, fillC, Value.cells, pt, Value.oneCell', reduceIte, reduceCtorEq, Nat.reduceEqDiff, Nat.reduceAdd, Nat.reduceMul, Nat.reduceLT, Nat.reduceBEq, Nat.reduceLeDiff, Nat.reduceSub]
    refine ⟨_, _, within_f _ _ _ (sees0 rfl (of_decide_eq_true rfl)), ?_⟩
    cases h2 : inB c.p 1 10000000 with
    | false => try simp -implicitDefEqProofs (disch := first | decide | exact of_eq_true (eq_true rfl) | omega | assumption) only [ ↓vcD, vcE, ↓vcG, vcF, evs, evP, evB, intsOf, fillC, Value.cells, pt, Value.oneCell', reduceIte, reduceCtorEq, Nat.reduceEqDiff, Nat.reduceAdd, Nat.reduceMul, Nat.reduceLT, Nat.reduceBEq, Nat.reduceLeDiff, Nat.reduceSub]
    | true =>
    try simp -implicitDefEqProofs (disch := first | decide | exact of_eq_true (eq_true rfl) | omega | assumption) only [ ↓vcD, vcE, ↓vcG, vcF, evs, evP, evB, intsOf, fillC, Value.cells, pt, Value.oneCell', reduceIte, reduceCtorEq, Nat.reduceEqDiff, Nat.reduceAdd, Nat.reduceMul, Nat.reduceLT, Nat.reduceBEq, Nat.reduceLeDiff, Nat.reduceSub]
    refine ⟨_, _, within_f _ _ _ (sees0 rfl (of_decide_eq_true rfl)), ?_⟩
    cases h3 : inB c.g 1 2000 with
    | false => try simp -implicitDefEqProofs (disch := first | decide | exact of_eq_true (eq_true rfl) | omega | assumption) only [ ↓vcD, vcE, ↓vcG, vcF, evs, evP, evB, intsOf, fillC, Value.cells, pt, Value.oneCell', reduceIte, reduceCtorEq, Nat.reduceEqDiff, Nat.reduceAdd, Nat.reduceMul, Nat.reduceLT, Nat.reduceBEq, Nat.reduceLeDiff, Nat.reduceSub]
    | true =>
    try simp -implicitDefEqProofs (disch := first | decide | exact of_eq_true (eq_true rfl) | omega | assumption) only [ ↓vcD, vcE, ↓vcG, vcF, evs, evP, evB, intsOf, fillC, Value.cells, pt, Value.oneCell', reduceIte, reduceCtorEq, Nat.reduceEqDiff, Nat.reduceAdd, Nat.reduceMul, Nat.reduceLT, Nat.reduceBEq, Nat.reduceLeDiff, Nat.reduceSub]
    refine ⟨_, _, within_f _ _ _ (sees0 rfl (of_decide_eq_true rfl)), ?_⟩
    cases h4 : inB c.st 0 600000000 with
    | false => try simp -implicitDefEqProofs (disch := first | decide | exact of_eq_true (eq_true rfl) | omega | assumption) only [ ↓vcD, vcE, ↓vcG, vcF, evs, evP, evB, intsOf, fillC, Value.cells, pt, Value.oneCell', reduceIte, reduceCtorEq, Nat.reduceEqDiff, Nat.reduceAdd, Nat.reduceMul, Nat.reduceLT, Nat.reduceBEq, Nat.reduceLeDiff, Nat.reduceSub]
    | true =>
    try simp -implicitDefEqProofs (disch := first | decide | exact of_eq_true (eq_true rfl) | omega | assumption) only [ ↓vcD, vcE, ↓vcG, vcF, evs, evP, evB, intsOf, fillC, Value.cells, pt, Value.oneCell', reduceIte, reduceCtorEq, Nat.reduceEqDiff, Nat.reduceAdd, Nat.reduceMul, Nat.reduceLT, Nat.reduceBEq, Nat.reduceLeDiff, Nat.reduceSub]
    refine ⟨_, _, isWidth_f _ _ (sees0 rfl (of_decide_eq_true rfl)), ?_⟩
    cases h5 : rngB c.sl c.sh 0 10000000 with
    | false => try simp -implicitDefEqProofs (disch := first | decide | exact of_eq_true (eq_true rfl) | omega | assumption) only [ ↓vcD, vcE, ↓vcG, vcF, evs, evP, evB, intsOf, fillC, Value.cells, pt, Value.oneCell', reduceIte, reduceCtorEq, Nat.reduceEqDiff, Nat.reduceAdd, Nat.reduceMul, Nat.reduceLT, Nat.reduceBEq, Nat.reduceLeDiff, Nat.reduceSub]
    | true =>
    have b1 : c.dh ≤ 10000000 ∧ 1 ≤ c.dh := by
      unfold wireB at h1
      simp only [Bool.and_eq_true] at h1
      have := rng_ok h1.1.1
      omega
    have b2 := rng_ok h5
    simp -implicitDefEqProofs (disch := first | decide | exact of_eq_true (eq_true rfl) | omega | assumption) only [Bool.and_self, Bool.true_and, Bool.not_not,  ↓vcD, vcE, ↓vcG, vcF, evs, evP, evB, intsOf, fillC, Value.cells, pt, Value.oneCell', reduceIte, reduceCtorEq, Nat.reduceEqDiff, Nat.reduceAdd, Nat.reduceMul, Nat.reduceLT, Nat.reduceBEq, Nat.reduceLeDiff, Nat.reduceSub]
  cases h1 : ckB c with
  | false =>
    have e : ckE c len = 2 := by unfold ckE; rw [h1]; rfl
    rw [e]
    refine ITri.cond (v := true) rfl (fun _ => ?_) (fun h => by cases h)
    refine ITri.seq ?_
    refine ITri.reg pok ?_; simp -implicitDefEqProofs (disch := first | decide | exact of_eq_true (eq_true rfl) | omega | assumption) only [ ↓vcD, vcE, ↓vcG, vcF, evs, evP, evB, intsOf, fillC, Value.cells, pt, Value.oneCell', reduceIte, reduceCtorEq, Nat.reduceEqDiff, Nat.reduceAdd, Nat.reduceMul, Nat.reduceLT, Nat.reduceBEq, Nat.reduceLeDiff, Nat.reduceSub]
    refine ITri.ret ?_; exact EndR.plain (by simp) (by rfl) (by rfl) (by rfl)
  | true =>
    have e : ckE c len = if inB len 1 600000000 = true then 0 else 3 := by unfold ckE; rw [h1]; rfl
    rw [e]
    refine ITri.cond (v := false) rfl (fun h => by cases h) (fun _ => ?_)
    refine ITri.seq ?_
    refine ITri.reg pok ?_; simp -implicitDefEqProofs (disch := first | decide | exact of_eq_true (eq_true rfl) | omega | assumption) only [ ↓vcD, vcE, ↓vcG, vcF, evs, evP, evB, intsOf, fillC, Value.cells, pt, Value.oneCell', reduceIte, reduceCtorEq, Nat.reduceEqDiff, Nat.reduceAdd, Nat.reduceMul, Nat.reduceLT, Nat.reduceBEq, Nat.reduceLeDiff, Nat.reduceSub]
    refine ⟨_, _, within_f _ _ _ (sees0 rfl (of_decide_eq_true rfl)), ?_⟩
    cases h2 : inB len 1 600000000 with
    | false =>
      try simp -implicitDefEqProofs (disch := first | decide | exact of_eq_true (eq_true rfl) | omega | assumption) only [ ↓vcD, vcE, ↓vcG, vcF, evs, evP, evB, intsOf, fillC, Value.cells, pt, Value.oneCell', reduceIte, reduceCtorEq, Nat.reduceEqDiff, Nat.reduceAdd, Nat.reduceMul, Nat.reduceLT, Nat.reduceBEq, Nat.reduceLeDiff, Nat.reduceSub]
      refine ITri.cond (v := true) rfl (fun _ => ?_) (fun h => by cases h)
      refine ITri.seq ?_
      refine ITri.reg pok ?_; simp -implicitDefEqProofs (disch := first | decide | exact of_eq_true (eq_true rfl) | omega | assumption) only [ ↓vcD, vcE, ↓vcG, vcF, evs, evP, evB, intsOf, fillC, Value.cells, pt, Value.oneCell', reduceIte, reduceCtorEq, Nat.reduceEqDiff, Nat.reduceAdd, Nat.reduceMul, Nat.reduceLT, Nat.reduceBEq, Nat.reduceLeDiff, Nat.reduceSub]
      refine ITri.ret ?_; exact EndR.plain (by simp) (by rfl) (by rfl) (by rfl)
    | true =>
      try simp -implicitDefEqProofs (disch := first | decide | exact of_eq_true (eq_true rfl) | omega | assumption) only [ ↓vcD, vcE, ↓vcG, vcF, evs, evP, evB, intsOf, fillC, Value.cells, pt, Value.oneCell', reduceIte, reduceCtorEq, Nat.reduceEqDiff, Nat.reduceAdd, Nat.reduceMul, Nat.reduceLT, Nat.reduceBEq, Nat.reduceLeDiff, Nat.reduceSub]
      refine ITri.cond (v := false) rfl (fun h => by cases h) (fun _ => ?_); refine ITri.skip ?_; simp only [SeqQ_normal, BlkQ_normal]
      refine ITri.seq ?_
      refine ITri.reg pok ?_; simp -implicitDefEqProofs (disch := first | decide | exact of_eq_true (eq_true rfl) | omega | assumption) only [ ↓vcD, vcE, ↓vcG, vcF, evs, evP, evB, intsOf, fillC, Value.cells, pt, Value.oneCell', reduceIte, reduceCtorEq, Nat.reduceEqDiff, Nat.reduceAdd, Nat.reduceMul, Nat.reduceLT, Nat.reduceBEq, Nat.reduceLeDiff, Nat.reduceSub]
      refine ITri.ret ?_; exact EndR.plain (by simp) (by rfl) (by rfl) (by rfl)
theorem used_f (c : Wb) (len : Int) (V : Vd c len) {h : AH} (hs : h.sees 0 = true) : Fc Try.prog 20 [sawV c len] h (.int .i64 (usF c len)) h := by
  refine Fc.lift0 ?_ rfl rfl hs
  refine Fc.intro0 fn20 (by simp) rfl rfl ?_; simp only [argF]
  have := V.p1
  have := V.p2
  have := V.g1
  have := V.g2
  have := V.s1
  have := V.s2
  have := V.n1
  have := V.n2
  refine ITri.seq ?_
  refine ITri.reg pok ?_; simp -implicitDefEqProofs (disch := first | decide | exact of_eq_true (eq_true rfl) | omega | assumption) only [ ↓vcD, vcE, ↓vcG, vcF, evs, evP, evB, intsOf, fillC, Value.cells, pt, Value.oneCell', reduceIte, reduceCtorEq, Nat.reduceEqDiff, Nat.reduceAdd, Nat.reduceMul, Nat.reduceLT, Nat.reduceBEq, Nat.reduceLeDiff, Nat.reduceSub]
  refine ITri.seq ?_
  refine ITri.seq ?_
  refine ITri.reg pok ?_; simp -implicitDefEqProofs (disch := first | decide | exact of_eq_true (eq_true rfl) | omega | assumption) only [ ↓vcD, vcE, ↓vcG, vcF, evs, evP, evB, intsOf, fillC, Value.cells, pt, Value.oneCell', reduceIte, reduceCtorEq, Nat.reduceEqDiff, Nat.reduceAdd, Nat.reduceMul, Nat.reduceLT, Nat.reduceBEq, Nat.reduceLeDiff, Nat.reduceSub]
  refine ITri.condD (by rfl) (fun h1 => ?_) (fun h1 => ?_)
  · have e : (usF c len : Int) = 0 := by unfold usF; rw [if_pos h1]; rfl
    rw [e]
    refine ITri.seq ?_
    refine ITri.reg pok ?_; simp -implicitDefEqProofs (disch := first | decide | exact of_eq_true (eq_true rfl) | omega | assumption) only [ ↓vcD, vcE, ↓vcG, vcF, evs, evP, evB, intsOf, fillC, Value.cells, pt, Value.oneCell', reduceIte, reduceCtorEq, Nat.reduceEqDiff, Nat.reduceAdd, Nat.reduceMul, Nat.reduceLT, Nat.reduceBEq, Nat.reduceLeDiff, Nat.reduceSub]
    refine ITri.ret ?_; exact EndR.plain (by simp) (by rfl) (by rfl) (by rfl)
  refine ITri.skip ?_; simp only [SeqQ_normal, BlkQ_normal]
  have d0 : 0 ≤ len - c.st - 1 := by omega
  have q0 : 0 ≤ (len - c.st - 1) / c.p := Int.ediv_nonneg d0 (by omega)
  have q1 := Int.ediv_le_self c.p d0
  have e : (usF c len : Int) = min c.g ((len - c.st - 1) / c.p + 1) := by
    unfold usF
    rw [if_neg (by omega)]
    omega
  have d1 := dvI_quo (b := c.p) d0
  rw [e]
  generalize (len - c.st - 1) / c.p = q at *
  refine ITri.seq ?_
  refine ITri.draw pok ?_; simp -implicitDefEqProofs (disch := first | decide | exact of_eq_true (eq_true rfl) | omega | assumption) only [d1,  ↓vcD, vcE, ↓vcG, vcF, evs, evP, evB, intsOf, fillC, Value.cells, pt, Value.oneCell', reduceIte, reduceCtorEq, Nat.reduceEqDiff, Nat.reduceAdd, Nat.reduceMul, Nat.reduceLT, Nat.reduceBEq, Nat.reduceLeDiff, Nat.reduceSub]
  refine ITri.ret ?_; exact EndR.plain (by simp) (by rfl) (by rfl) (by rfl)
def atF (lo hi y : Int) : Int := lo + (hi - lo) * y / 255
theorem atF_bd {lo hi y : Int} (h : lo ≤ hi) (h0 : 0 ≤ y) (h1 : y ≤ 255) : lo ≤ atF lo hi y ∧ atF lo hi y ≤ hi := by
  unfold atF
  have h2 : 0 ≤ (hi - lo) * y := Int.mul_nonneg (by omega) h0
  have h3 : (hi - lo) * y ≤ (hi - lo) * 255 := Int.mul_le_mul_of_nonneg_left h1 (by omega)
  omega
theorem at_f (lo hi y : Int) (h1 : 0 ≤ lo) (h2 : lo ≤ hi) (h3 : hi ≤ 10000000) (h4 : 0 ≤ y) (h5 : y ≤ 255) {h : AH} (hs : h.sees 0 = true) : Fc Try.prog 9 [.agg #[.int .i64 lo, .int .i64 hi], .int .u8 y] h (.int .i64 (atF lo hi y)) h := by
  refine Fc.lift0 ?_ rfl rfl hs
  have b := atF_bd h2 h4 h5
  have z0 : 0 ≤ (hi - lo) * y := Int.mul_nonneg (by omega) h4
  have z1 : (hi - lo) * y ≤ (hi - lo) * 255 := Int.mul_le_mul_of_nonneg_left h5 (by omega)
  unfold atF at *
  have d1 := dvI_quo (b := 255) z0
  obtain ⟨z, hz⟩ : ∃ z, (hi - lo) * y = z := ⟨_, rfl⟩
  rw [hz] at b z0 z1 d1 ⊢
  refine Fc.intro0 fn9 (by simp) rfl rfl ?_; simp only [argF]
  refine ITri.seq ?_
  refine ITri.reg pok ?_; simp -implicitDefEqProofs (disch := first | decide | exact of_eq_true (eq_true rfl) | omega | assumption) only [ ↓vcD, vcE, ↓vcG, vcF, evs, evP, evB, intsOf, fillC, Value.cells, pt, Value.oneCell', reduceIte, reduceCtorEq, Nat.reduceEqDiff, Nat.reduceAdd, Nat.reduceMul, Nat.reduceLT, Nat.reduceBEq, Nat.reduceLeDiff, Nat.reduceSub]
  refine ITri.seq ?_
  refine ITri.reg pok ?_; simp -implicitDefEqProofs (disch := first | decide | exact of_eq_true (eq_true rfl) | omega | assumption) only [hz, d1,  ↓vcD, vcE, ↓vcG, vcF, evs, evP, evB, intsOf, fillC, Value.cells, pt, Value.oneCell', reduceIte, reduceCtorEq, Nat.reduceEqDiff, Nat.reduceAdd, Nat.reduceMul, Nat.reduceLT, Nat.reduceBEq, Nat.reduceLeDiff, Nat.reduceSub]
  refine ITri.ret ?_; exact EndR.plain (by simp) (by rfl) (by rfl) (by rfl)
/-- Bytes. -/
def eY (x : Int) : List Value := [.int .u8 x]
instance flY : FlatE eY 1 := ⟨fun _ => rfl, fun _ => rfl, fun _ => rfl⟩
theorem getY {xs : List Int} {i : Nat} (hi : i < xs.length) : (rows eY xs)[i]? = some (.int .u8 (nth xs i)) := rows_get1 (f := eY) hi
def plF (t : List Int) (i : Nat) : Int := if t.length = 0 then 0 else nth t (i % t.length)
theorem plF_bd {t : List Int} (ht : ∀ x ∈ t, 0 ≤ x ∧ x ≤ 255) (i : Nat) : 0 ≤ plF t i ∧ plF t i ≤ 255 := by
  unfold plF
  split
  · omega
  · exact ht _ (nth_mem (Nat.mod_lt _ (by omega)))
theorem place_f {t : List Int} {n : Nat} (hn : t.length = n) (i : Nat) (hi : i ≤ 1000000) {h : AH} {s : Value} (h0 : h.sees 0 = true) (r : Rd h s n (rows eY t)) : Fc Try.prog 10 [s, .int .i64 i] h (.int .u8 (plF t i)) h := by
  refine Fc.lift1 (mk := fun ss => [] ++ ss ++ [.int .i64 i]) (mkv := fun _ => .int .u8 (plF t i)) (os := []) (fun c => ?_) (MkL.mid rfl rfl) (MkV.const rfl) (rows_no (f := eY) t) (fun o ho => by cases ho) h0 r
  refine Fc.intro0 (h := H1 (rows eY t)) fn10 (by simp) rfl rfl ?_; simp only [argF, List.cons_append, List.nil_append]
  unfold plF
  refine ITri.seq ?_
  refine ITri.reg pok ?_; simp -implicitDefEqProofs (disch := first | decide | exact of_eq_true (eq_true rfl) | omega | assumption) only [ ↓vcD, vcE, ↓vcG, vcF, evs, evP, evB, intsOf, fillC, Value.cells, pt, Value.oneCell', reduceIte, reduceCtorEq, Nat.reduceEqDiff, Nat.reduceAdd, Nat.reduceMul, Nat.reduceLT, Nat.reduceBEq, Nat.reduceLeDiff, Nat.reduceSub]
  refine ITri.seq ?_
  refine ITri.seq ?_
  refine ITri.reg pok ?_; simp -implicitDefEqProofs (disch := first | decide | exact of_eq_true (eq_true rfl) | omega | assumption) only [ ↓vcD, vcE, ↓vcG, vcF, evs, evP, evB, intsOf, fillC, Value.cells, pt, Value.oneCell', reduceIte, reduceCtorEq, Nat.reduceEqDiff, Nat.reduceAdd, Nat.reduceMul, Nat.reduceLT, Nat.reduceBEq, Nat.reduceLeDiff, Nat.reduceSub]
  refine ITri.condD (by rfl) (fun h1 => ?_) (fun h1 => ?_)
  · rw [if_pos (by omega)]
    refine ITri.seq ?_
    refine ITri.reg pok ?_; simp -implicitDefEqProofs (disch := first | decide | exact of_eq_true (eq_true rfl) | omega | assumption) only [ ↓vcD, vcE, ↓vcG, vcF, evs, evP, evB, intsOf, fillC, Value.cells, pt, Value.oneCell', reduceIte, reduceCtorEq, Nat.reduceEqDiff, Nat.reduceAdd, Nat.reduceMul, Nat.reduceLT, Nat.reduceBEq, Nat.reduceLeDiff, Nat.reduceSub]
    refine ITri.ret ?_; exact EndR.plain (by simp) (by rfl) (by rfl) (by rfl)
  refine ITri.skip ?_; simp only [SeqQ_normal, BlkQ_normal]
  rw [if_neg (by omega)]
  have hm : i % t.length < t.length := Nat.mod_lt _ (by omega)
  have d1 : dvI .rem (i : Int) (n : Int) = ((i % t.length : Nat) : Int) := by
    rw [dvI_rem (by omega), hn]
    exact (Int.natCast_emod i n).symm
  have gv := getY hm
  have hle : i % t.length ≤ i := Nat.mod_le _ _
  generalize i % t.length = j at *
  refine ITri.seq ?_
  refine ITri.reg pok ?_; simp -implicitDefEqProofs (disch := first | decide | exact of_eq_true (eq_true rfl) | omega | assumption) only [d1, gv,  ↓vcD, vcE, ↓vcG, vcF, evs, evP, evB, intsOf, fillC, Value.cells, pt, Value.oneCell', reduceIte, reduceCtorEq, Nat.reduceEqDiff, Nat.reduceAdd, Nat.reduceMul, Nat.reduceLT, Nat.reduceBEq, Nat.reduceLeDiff, Nat.reduceSub]
  refine ITri.ret ?_; exact EndR.plain (by simp) (by rfl) (by rfl) (by rfl)
end Go.Proofs.Ytjfgbdmdnejhdaa
