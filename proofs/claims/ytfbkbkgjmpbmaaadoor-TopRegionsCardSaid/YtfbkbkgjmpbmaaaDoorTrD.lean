/-
  Chapter 10 at the top: Passes and Certify, by names.
-/
import Derived.Test.YtfbkbkgjmpbmaaaDoorTrC
set_option linter.unusedSimpArgs false
set_option linter.unusedVariables false
namespace Go.Proofs.YtfbkbkgjmpbmaaaDoor
open Go.RowKit Go.Vm
set_option maxRecDepth 1000000
/- boule/order.Passes · slots 24 · names 0:s 1:w 2:s 3:w · results [4, 5] -/
def ir9_r0 : IC := .reg [⟨some 2, none, false, .box (.t 0)⟩,
  ⟨some 3, none, false, .box (.t 1)⟩,
  ⟨some 4, none, false, .mv (.k (.int .u8 0))⟩,
  ⟨some 5, none, false, .mv (.k (.int .i64 0))⟩] (some [2, 3])
def ir9_r1 : IC := .reg [⟨some 7, none, false, .lda 13 (.t 2)⟩,
  ⟨some 8, none, false, .call (.f 15) [(.t 7)]⟩,
  ⟨some 9, none, false, .not (.t 8)⟩,
  ⟨some 10, none, false, .mv (.t 9)⟩,
  ⟨some 11, some (10, false), false, .lda 19 (.t 3)⟩,
  ⟨some 12, some (10, false), false, .call (.f 16) [(.t 11)]⟩,
  ⟨some 13, some (10, false), false, .not (.t 12)⟩,
  ⟨some 14, none, false, .pick (.t 10) (.k (.bool true)) (.t 13)⟩,
  ⟨some 6, none, false, .mv (.t 14)⟩] (some [2, 3, 6])
def ir9_r2 : IC := .reg [⟨some 4, none, false, .mv (.k (.int .u8 0))⟩,
  ⟨some 5, none, false, .mv (.k (.int .i64 2))⟩] (some [4, 5])
def ir9_1 : IC := .seq ir9_r2 .ret
def ir9_r3 : IC := .reg [⟨some 16, none, false, .lda 13 (.t 2)⟩,
  ⟨some 17, none, false, .lda 19 (.t 3)⟩,
  ⟨some 18, none, false, .call (.f 17) [(.t 16), (.t 17)]⟩,
  ⟨some 19, none, false, .cmp .lss (.t 18) (.k (.int .i64 0))⟩,
  ⟨some 15, none, false, .mv (.t 19)⟩] (some [2, 3, 15])
def ir9_r4 : IC := .reg [⟨some 4, none, false, .mv (.k (.int .u8 1))⟩,
  ⟨some 5, none, false, .mv (.k (.int .i64 0))⟩] (some [4, 5])
def ir9_2 : IC := .seq ir9_r4 .ret
def ir9_r5 : IC := .reg [⟨some 21, none, false, .lda 13 (.t 2)⟩,
  ⟨some 22, none, false, .lda 19 (.t 3)⟩,
  ⟨some 23, none, false, .call (.f 18) [(.t 21), (.t 22)]⟩,
  ⟨some 20, none, false, .mv (.t 23)⟩] (some [20])
def ir9_r6 : IC := .reg [⟨some 4, none, false, .mv (.k (.int .u8 3))⟩,
  ⟨some 5, none, false, .mv (.k (.int .i64 0))⟩] (some [4, 5])
def ir9_3 : IC := .seq ir9_r6 .ret
def ir9_4 : IC := .cond (.t 20) ir9_3 .skip
def ir9_5 : IC := .seq ir9_r5 ir9_4
def ir9_6 : IC := .cond (.t 15) ir9_2 ir9_5
def ir9_7 : IC := .seq ir9_r3 ir9_6
def ir9_8 : IC := .cond (.t 6) ir9_1 ir9_7
def ir9_9 : IC := .seq ir9_r1 ir9_8
def ir9_10 : IC := .block 0 ir9_9
def ir9_r7 : IC := .reg [⟨some 4, none, false, .mv (.k (.int .u8 2))⟩,
  ⟨some 5, none, false, .mv (.k (.int .i64 0))⟩] (some [4, 5])
def ir9_11 : IC := .seq ir9_r7 .ret
def ir9_12 : IC := .seq ir9_10 ir9_11
def ir9_13 : IC := .seq ir9_r0 ir9_12
def ir9 : IC := ir9_13
theorem fn9 : FnIs Tryd.prog 9 ir9 24 [.tmp 4, .tmp 5] := ⟨Tryd.f9, Tryd.f9.body.getD .skip, Tryd.func9, by kernel_rfl, by kernel_rfl, by kernel_rfl, by kernel_rfl⟩
/- boule/order.Certify · slots 46 · names 0:s 1:w 2:s 3:w 4:lines 5:at 6:e 7:at 8:i 9:r · results [4, 5, 6] -/
def ir10_r0 : IC := .reg [⟨some 2, none, false, .box (.t 0)⟩,
  ⟨some 3, none, false, .box (.t 1)⟩,
  ⟨some 4, none, false, .mv (.k (.slice none 0 0))⟩,
  ⟨some 5, none, false, .mv (.k (.int .i64 0))⟩,
  ⟨some 6, none, false, .mv (.k (.int .i64 0))⟩] (some [2, 3, 4])
def ir10_r1 : IC := .reg [⟨some 10, none, false, .lda 13 (.t 2)⟩,
  ⟨some 11, none, false, .call (.f 15) [(.t 10)]⟩,
  ⟨some 12, none, false, .not (.t 11)⟩,
  ⟨some 13, none, false, .mv (.t 12)⟩,
  ⟨some 14, some (13, false), false, .lda 19 (.t 3)⟩,
  ⟨some 15, some (13, false), false, .call (.f 16) [(.t 14)]⟩,
  ⟨some 16, some (13, false), false, .not (.t 15)⟩,
  ⟨some 17, none, false, .pick (.t 13) (.k (.bool true)) (.t 16)⟩] (some [2, 3, 4, 17])
def ir10_r2 : IC := .reg [⟨some 4, none, false, .mv (.k (.slice none 0 0))⟩,
  ⟨some 5, none, false, .mv (.k (.int .i64 0))⟩,
  ⟨some 6, none, false, .mv (.k (.int .i64 2))⟩] (some [4, 5, 6])
def ir10_1 : IC := .seq ir10_r2 .ret
def ir10_2 : IC := .cond (.t 17) ir10_1 .skip
def ir10_3 : IC := .seq ir10_r1 ir10_2
def ir10_r3 : IC := .reg [⟨some 18, none, false, .lda 13 (.t 2)⟩,
  ⟨some 19, none, false, .lda 19 (.t 3)⟩,
  ⟨some 20, none, false, .call (.f 17) [(.t 18), (.t 19)]⟩,
  ⟨some 7, none, false, .mv (.t 20)⟩] (some [2, 3, 4, 7])
def ir10_r4 : IC := .reg [⟨some 21, none, false, .mv (.t 7)⟩,
  ⟨some 22, none, false, .cmp .geq (.t 21) (.k (.int .i64 0))⟩] (some [2, 3, 4, 7, 22])
def ir10_r5 : IC := .reg [⟨some 23, none, false, .mv (.t 7)⟩,
  ⟨some 4, none, false, .mv (.k (.slice none 0 0))⟩,
  ⟨some 5, none, false, .mv (.t 23)⟩,
  ⟨some 6, none, false, .mv (.k (.int .i64 100))⟩] (some [4, 5, 6])
def ir10_4 : IC := .seq ir10_r5 .ret
def ir10_5 : IC := .cond (.t 22) ir10_4 .skip
def ir10_6 : IC := .seq ir10_r4 ir10_5
def ir10_7 : IC := .seq ir10_r3 ir10_6
def ir10_r6 : IC := .reg [⟨some 24, none, false, .fad 0 (.t 3)⟩,
  ⟨some 25, none, false, .lda 12 (.t 24)⟩,
  ⟨some 26, none, false, .mv (.k (.int .i64 0))⟩] (some [2, 3, 4, 25, 26])
def ir10_r7 : IC := .reg [⟨some 27, none, false, .cmp .lss (.t 26) (.k (.int .i64 6))⟩] (some [2, 3, 4, 25, 26, 27])
def ir10_8 : IC := .cond (.t 27) .skip (.exit 0)
def ir10_r8 : IC := .reg [⟨some 28, none, false, .mv (.t 26)⟩,
  ⟨some 29, none, false, .gen (.index 37 (.tmp 25) (.tmp 26))⟩,
  ⟨some 9, none, false, .alloc [(.int .i64 0), (.int .i64 0)]⟩,
  ⟨some 8, none, false, .mv (.t 28)⟩,
  ⟨none, none, false, .st 2 (.t 9) (.t 29)⟩] (some [2, 3, 4, 8, 9, 25, 26])
def ir10_r9 : IC := .draw [(⟨some 30, none, false, .mv (.t 4)⟩, false, 0, 0),
  (⟨some 31, none, false, .mv (.t 8)⟩, false, 0, 0),
  (⟨some 32, none, false, .lda 2 (.t 9)⟩, false, 0, 8193),
  (⟨some 33, none, false, .mv (.t 8)⟩, false, 0, 0),
  (⟨some 34, none, false, .fad 0 (.t 2)⟩, false, 0, 0),
  (⟨some 35, none, false, .iada 6 2 (.t 34) (.t 33)⟩, false, 24, 0),
  (⟨some 36, none, false, .lda 2 (.t 35)⟩, false, 56, 8193),
  (⟨some 37, none, false, .mv (.t 8)⟩, false, 0, 0),
  (⟨some 38, none, false, .fad 13 (.t 3)⟩, false, 0, 0),
  (⟨some 39, none, false, .iada 6 1 (.t 38) (.t 37)⟩, false, 384, 0),
  (⟨some 40, none, false, .ldc (.t 39)⟩, false, 896, 8249),
  (⟨some 41, none, false, .bld [(.int .i64 0), (.int .i64 0), (.int .i64 0), (.int .i64 0), (.int .i64 0), (.string ⟨#[]⟩)] [(0, 1, (.t 31)), (1, 2, (.t 32)), (3, 2, (.t 36)), (5, 1, (.t 40))]⟩, false, 2046, 0),
  (⟨some 42, none, false, .bsl 6 1 [(.int .i64 0), (.int .i64 0), (.int .i64 0), (.int .i64 0), (.int .i64 0), (.string ⟨#[]⟩)] [(0, (.t 41))]⟩, true, 4094, 0),
  (⟨some 43, none, false, .app 6 56 (.t 30) (.t 42)⟩, true, 8191, 0),
  (⟨some 4, none, false, .mv (.t 43)⟩, false, 16383, 0)] (some [2, 3, 4, 25, 26])
def ir10_9 : IC := .seq ir10_r8 ir10_r9
def ir10_10 : IC := .block 1 ir10_9
def ir10_r10 : IC := .reg [⟨some 44, none, false, .ar .add (.t 26) (.k (.int .i64 1))⟩,
  ⟨some 26, none, false, .mv (.t 44)⟩] (some [2, 3, 4, 25, 26])
def ir10_11 : IC := .seq ir10_10 ir10_r10
def ir10_12 : IC := .seq ir10_8 ir10_11
def ir10_13 : IC := .seq ir10_r7 ir10_12
def ir10_14 : IC := .loop ir10_13
def ir10_15 : IC := .block 0 ir10_14
def ir10_16 : IC := .seq ir10_r6 ir10_15
def ir10_r11 : IC := .reg [⟨some 45, none, false, .mv (.t 4)⟩,
  ⟨some 4, none, false, .mv (.t 45)⟩,
  ⟨some 5, none, false, .mv (.k (.int .i64 0))⟩,
  ⟨some 6, none, false, .mv (.k (.int .i64 0))⟩] (some [4, 5, 6])
def ir10_17 : IC := .seq ir10_r11 .ret
def ir10_18 : IC := .seq ir10_16 ir10_17
def ir10_19 : IC := .seq ir10_7 ir10_18
def ir10_20 : IC := .seq ir10_3 ir10_19
def ir10_21 : IC := .seq ir10_r0 ir10_20
def ir10 : IC := ir10_21
theorem fn10 : FnIs Tryd.prog 10 ir10 46 [.tmp 4, .tmp 5, .tmp 6] := ⟨Tryd.f10, Tryd.f10.body.getD .skip, Tryd.func10, by kernel_rfl, by kernel_rfl, by kernel_rfl, by kernel_rfl⟩
theorem tk_spec {a : Nat} : takeC (specL a) 0 13 = some (specL a) := rfl
theorem tk_waf {s : Nat} : takeC (wafL s) 0 19 = some (wafL s) := rfl
theorem passes_c {a s : Nat} (ha : a < 32) (h1 : 1 ≤ s) (hs : s < 32) : Fc Tryd.prog 9 [.agg ⟨specL a⟩, .agg ⟨wafL s⟩] (Hp 1 [none]) (.tuple #[u8 (gradeF s a), .int .i64 0]) (Hp 1 [none]) := by
  refine Fc.intro0 fn9 (by simp) rfl rfl ?_; simp only [argF]
  refine ITri.seq ?_
  refine ITri.reg pok ?_; simp -implicitDefEqProofs (disch := first | decide | exact of_eq_true (eq_true rfl) | omega | assumption) only [ ↓vcD, vcE, ↓vcG, vcF, evs, evP, evB, intsOf, fillC, Value.cells, pt, Value.oneCell', reduceIte, reduceCtorEq, Nat.reduceEqDiff, Nat.reduceAdd, Nat.reduceMul, Nat.reduceLT, Nat.reduceBEq, Nat.reduceLeDiff, Nat.reduceSub] -- r0
  refine ITri.seq ?_
  refine ITri.block ?_ -- 0
  refine ITri.seq ?_
  refine ITri.reg pok ?_; simp -implicitDefEqProofs (disch := first | decide | exact of_eq_true (eq_true rfl) | omega | assumption) only [@tk_spec a, @tk_waf s,  ↓vcD, vcE, ↓vcG, vcF, evs, evP, evB, intsOf, fillC, Value.cells, pt, Value.oneCell', reduceIte, reduceCtorEq, Nat.reduceEqDiff, Nat.reduceAdd, Nat.reduceMul, Nat.reduceLT, Nat.reduceBEq, Nat.reduceLeDiff, Nat.reduceSub] -- r1
  refine ⟨_, _, isSpec_f ha (sees0 rfl (of_decide_eq_true rfl)), ?_⟩
  simp -implicitDefEqProofs (disch := first | decide | exact of_eq_true (eq_true rfl) | omega | assumption) only [@tk_waf s, Bool.not_true,  ↓vcD, vcE, ↓vcG, vcF, evs, evP, evB, intsOf, fillC, Value.cells, pt, Value.oneCell', reduceIte, reduceCtorEq, Nat.reduceEqDiff, Nat.reduceAdd, Nat.reduceMul, Nat.reduceLT, Nat.reduceBEq, Nat.reduceLeDiff, Nat.reduceSub]
  refine ⟨_, _, isWafer_f h1 hs (sees0 rfl (of_decide_eq_true rfl)), ?_⟩
  simp -implicitDefEqProofs (disch := first | decide | exact of_eq_true (eq_true rfl) | omega | assumption) only [Bool.not_true,  ↓vcD, vcE, ↓vcG, vcF, evs, evP, evB, intsOf, fillC, Value.cells, pt, Value.oneCell', reduceIte, reduceCtorEq, Nat.reduceEqDiff, Nat.reduceAdd, Nat.reduceMul, Nat.reduceLT, Nat.reduceBEq, Nat.reduceLeDiff, Nat.reduceSub]
  refine ITri.cond (v := false) rfl (fun h => by cases h) (fun _ => ?_)
  refine ITri.seq ?_
  refine ITri.reg pok ?_; simp -implicitDefEqProofs (disch := first | decide | exact of_eq_true (eq_true rfl) | omega | assumption) only [@tk_spec a, @tk_waf s,  ↓vcD, vcE, ↓vcG, vcF, evs, evP, evB, intsOf, fillC, Value.cells, pt, Value.oneCell', reduceIte, reduceCtorEq, Nat.reduceEqDiff, Nat.reduceAdd, Nat.reduceMul, Nat.reduceLT, Nat.reduceBEq, Nat.reduceLeDiff, Nat.reduceSub] -- r3
  refine ⟨_, _, fault_f ha hs (sees0 rfl (of_decide_eq_true rfl)), ?_⟩
  by_cases hz : s &&& a = s
  · have hg : gradeF s a = 1 := by unfold gradeF; rw [if_pos hz]
    have hn : (-1 : Int) < 0 := by decide
    rw [if_pos hz, hg]
    simp -implicitDefEqProofs (disch := first | decide | exact of_eq_true (eq_true rfl) | omega | assumption) only [hn, decide_true,  ↓vcD, vcE, ↓vcG, vcF, evs, evP, evB, intsOf, fillC, Value.cells, pt, Value.oneCell', reduceIte, reduceCtorEq, Nat.reduceEqDiff, Nat.reduceAdd, Nat.reduceMul, Nat.reduceLT, Nat.reduceBEq, Nat.reduceLeDiff, Nat.reduceSub]
    refine ITri.cond (v := true) rfl (fun _ => ?_) (fun h => by cases h)
    refine ITri.seq ?_
    refine ITri.reg pok ?_; simp -implicitDefEqProofs (disch := first | decide | exact of_eq_true (eq_true rfl) | omega | assumption) only [ ↓vcD, vcE, ↓vcG, vcF, evs, evP, evB, intsOf, fillC, Value.cells, pt, Value.oneCell', reduceIte, reduceCtorEq, Nat.reduceEqDiff, Nat.reduceAdd, Nat.reduceMul, Nat.reduceLT, Nat.reduceBEq, Nat.reduceLeDiff, Nat.reduceSub] -- r4
    refine ITri.ret ?_; exact EndR.plain (by simp) (by rfl) (by rfl) (by rfl)
  have hn : ¬ (6 : Int) < 0 := by decide
  rw [if_neg hz]
  simp -implicitDefEqProofs (disch := first | decide | exact of_eq_true (eq_true rfl) | omega | assumption) only [hn, decide_false,  ↓vcD, vcE, ↓vcG, vcF, evs, evP, evB, intsOf, fillC, Value.cells, pt, Value.oneCell', reduceIte, reduceCtorEq, Nat.reduceEqDiff, Nat.reduceAdd, Nat.reduceMul, Nat.reduceLT, Nat.reduceBEq, Nat.reduceLeDiff, Nat.reduceSub]
  refine ITri.cond (v := false) rfl (fun h => by cases h) (fun _ => ?_)
  refine ITri.seq ?_
  refine ITri.reg pok ?_; simp -implicitDefEqProofs (disch := first | decide | exact of_eq_true (eq_true rfl) | omega | assumption) only [@tk_spec a, @tk_waf s,  ↓vcD, vcE, ↓vcG, vcF, evs, evP, evB, intsOf, fillC, Value.cells, pt, Value.oneCell', reduceIte, reduceCtorEq, Nat.reduceEqDiff, Nat.reduceAdd, Nat.reduceMul, Nat.reduceLT, Nat.reduceBEq, Nat.reduceLeDiff, Nat.reduceSub] -- r5
  refine ⟨_, _, never_f ha hs (sees0 rfl (of_decide_eq_true rfl)), ?_⟩
  by_cases h0 : s &&& a = 0
  · have hg : gradeF s a = 3 := by unfold gradeF; rw [if_neg hz, if_pos h0]
    rw [decide_eq_true h0, hg]
    try simp -implicitDefEqProofs (disch := first | decide | exact of_eq_true (eq_true rfl) | omega | assumption) only [ ↓vcD, vcE, ↓vcG, vcF, evs, evP, evB, intsOf, fillC, Value.cells, pt, Value.oneCell', reduceIte, reduceCtorEq, Nat.reduceEqDiff, Nat.reduceAdd, Nat.reduceMul, Nat.reduceLT, Nat.reduceBEq, Nat.reduceLeDiff, Nat.reduceSub]
    refine ITri.cond (v := true) rfl (fun _ => ?_) (fun h => by cases h)
    refine ITri.seq ?_
    refine ITri.reg pok ?_; simp -implicitDefEqProofs (disch := first | decide | exact of_eq_true (eq_true rfl) | omega | assumption) only [ ↓vcD, vcE, ↓vcG, vcF, evs, evP, evB, intsOf, fillC, Value.cells, pt, Value.oneCell', reduceIte, reduceCtorEq, Nat.reduceEqDiff, Nat.reduceAdd, Nat.reduceMul, Nat.reduceLT, Nat.reduceBEq, Nat.reduceLeDiff, Nat.reduceSub] -- r6
    refine ITri.ret ?_; exact EndR.plain (by simp) (by rfl) (by rfl) (by rfl)
  · have hg : gradeF s a = 2 := by unfold gradeF; rw [if_neg hz, if_neg h0]
    rw [decide_eq_false h0, hg]
    try simp -implicitDefEqProofs (disch := first | decide | exact of_eq_true (eq_true rfl) | omega | assumption) only [ ↓vcD, vcE, ↓vcG, vcF, evs, evP, evB, intsOf, fillC, Value.cells, pt, Value.oneCell', reduceIte, reduceCtorEq, Nat.reduceEqDiff, Nat.reduceAdd, Nat.reduceMul, Nat.reduceLT, Nat.reduceBEq, Nat.reduceLeDiff, Nat.reduceSub]
    refine ITri.cond (v := false) rfl (fun h => by cases h) (fun _ => ?_); refine ITri.skip ?_; simp only [SeqQ_normal, BlkQ_normal]
    refine ITri.seq ?_
    refine ITri.reg pok ?_; simp -implicitDefEqProofs (disch := first | decide | exact of_eq_true (eq_true rfl) | omega | assumption) only [ ↓vcD, vcE, ↓vcG, vcF, evs, evP, evB, intsOf, fillC, Value.cells, pt, Value.oneCell', reduceIte, reduceCtorEq, Nat.reduceEqDiff, Nat.reduceAdd, Nat.reduceMul, Nat.reduceLT, Nat.reduceBEq, Nat.reduceLeDiff, Nat.reduceSub] -- r7
    refine ITri.ret ?_; exact EndR.plain (by simp) (by rfl) (by rfl) (by rfl)
theorem passes_f {a s : Nat} (ha : a < 32) (h1 : 1 ≤ s) (hs : s < 32) {h : AH} (h0 : h.sees 0 = true) : Fc Tryd.prog 9 [.agg ⟨specL a⟩, .agg ⟨wafL s⟩] h (.tuple #[u8 (gradeF s a), .int .i64 0]) h := Fc.lift0 (passes_c ha h1 hs) rfl rfl h0
end Go.Proofs.YtfbkbkgjmpbmaaaDoor
