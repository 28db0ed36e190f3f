/-
  Chapter 6: the law RecordChecks, by names.
-/
import Derived.Test.YtgjokhodccacoaaDoorSRecW8
set_option linter.unusedSimpArgs false
set_option linter.unusedVariables false
namespace Go.Proofs.YtgjokhodccacoaaDoor
open Go.RowKit Go.Vm
set_option maxRecDepth 100000
/- boule/boulelaw06.RecordChecks · slots 59 · names 0:b 1:kind 2:b 3:kind 5:in 6:c 7:p 8:e 9:q 10:f · results [4] -/
def ir3_r0 : IC := .reg [⟨some 4, none, false, .mv (.k (.bool false))⟩] (some [0, 1])
def ir3_r1 : IC := .reg [⟨some 11, none, false, .mv (.t 0)⟩,
  ⟨some 12, none, false, .len (.t 11)⟩,
  ⟨some 13, none, false, .cmp .gtr (.t 12) (.k (.int .i64 11000))⟩] (some [0, 1, 13])
def ir3_r2 : IC := .reg [⟨some 14, none, false, .call (.f 19) []⟩,
  ⟨some 4, none, false, .mv (.t 14)⟩] (some [4])
def ir3_1 : IC := .seq ir3_r2 .ret
def ir3_2 : IC := .cond (.t 13) ir3_1 .skip
def ir3_3 : IC := .seq ir3_r1 ir3_2
def ir3_r3 : IC := .reg [⟨some 15, none, false, .mv (.t 0)⟩,
  ⟨some 16, none, false, .call (.f 20) [(.t 15)]⟩,
  ⟨some 5, none, false, .mv (.t 16)⟩] (some [0, 1, 5])
def ir3_r4 : IC := .reg [⟨some 17, none, false, .mv (.t 5)⟩,
  ⟨some 18, none, false, .call (.f 21) [(.t 17)]⟩,
  ⟨some 6, none, false, .mv (.t 18)⟩] (some [0, 1, 5, 6])
def ir3_r5 : IC := .reg [⟨some 20, none, false, .mv (.t 1)⟩,
  ⟨some 21, none, false, .mv (.t 5)⟩,
  ⟨some 22, none, false, .bld [(.int .i64 0), (.slice none 0 0)] [(0, 1, (.t 20)), (1, 1, (.t 21))]⟩,
  ⟨some 23, none, false, .call (.f 22) [(.t 22)]⟩,
  ⟨some 19, none, false, .mv (.t 23)⟩,
  ⟨some 24, none, false, .ext (.t 19) 0⟩,
  ⟨some 25, none, false, .ext (.t 19) 1⟩,
  ⟨some 7, none, false, .mv (.t 24)⟩,
  ⟨some 8, none, false, .mv (.t 25)⟩] (some [0, 1, 5, 6, 7, 8])
def ir3_r6 : IC := .reg [⟨some 27, none, false, .mv (.t 1)⟩,
  ⟨some 28, none, false, .mv (.t 0)⟩,
  ⟨some 29, none, false, .bld [(.int .i64 0), (.slice none 0 0)] [(0, 1, (.t 27)), (1, 1, (.t 28))]⟩,
  ⟨some 30, none, false, .call (.f 23) [(.t 29)]⟩,
  ⟨some 26, none, false, .mv (.t 30)⟩,
  ⟨some 31, none, false, .ext (.t 26) 0⟩,
  ⟨some 32, none, false, .ext (.t 26) 1⟩,
  ⟨some 9, none, false, .mv (.t 31)⟩,
  ⟨some 10, none, false, .mv (.t 32)⟩] (some [0, 5, 6, 7, 8, 9, 10])
def ir3_r7 : IC := .reg [⟨some 33, none, false, .mv (.t 6)⟩,
  ⟨some 34, none, false, .mv (.t 0)⟩,
  ⟨some 35, none, false, .call (.f 24) [(.t 34)]⟩,
  ⟨some 36, none, false, .cmp .eql (.t 33) (.t 35)⟩,
  ⟨some 37, none, false, .mv (.t 36)⟩,
  ⟨some 38, some (37, true), false, .mv (.t 7)⟩,
  ⟨some 39, some (37, true), false, .gen (.convert 22 9 (.tmp 38))⟩,
  ⟨some 40, some (37, true), false, .mv (.t 9)⟩,
  ⟨some 41, some (37, true), false, .gen (.convert 22 9 (.tmp 40))⟩,
  ⟨some 42, some (37, true), false, .gen (.binOp .eql 9 (.tmp 39) (.tmp 41) 9)⟩,
  ⟨some 43, none, false, .pick (.t 37) (.t 42) (.k (.bool false))⟩,
  ⟨some 44, none, false, .mv (.t 43)⟩,
  ⟨some 45, some (44, true), false, .mv (.t 8)⟩,
  ⟨some 46, some (44, true), false, .mv (.t 10)⟩,
  ⟨some 47, some (44, true), false, .cmp .eql (.t 45) (.t 46)⟩,
  ⟨some 48, none, false, .pick (.t 44) (.t 47) (.k (.bool false))⟩,
  ⟨some 49, none, false, .mv (.t 48)⟩,
  ⟨some 50, some (49, true), false, .mv (.t 5)⟩,
  ⟨some 51, some (49, true), false, .gen (.convert 22 9 (.tmp 50))⟩,
  ⟨some 52, some (49, true), false, .mv (.t 0)⟩,
  ⟨some 53, some (49, true), false, .gen (.convert 22 9 (.tmp 52))⟩,
  ⟨some 54, some (49, true), false, .gen (.binOp .eql 9 (.tmp 51) (.tmp 53) 9)⟩,
  ⟨some 55, none, false, .pick (.t 49) (.t 54) (.k (.bool false))⟩,
  ⟨some 56, none, false, .mv (.t 55)⟩,
  ⟨some 57, some (56, true), false, .call (.f 19) []⟩,
  ⟨some 58, none, false, .pick (.t 56) (.t 57) (.k (.bool false))⟩,
  ⟨some 4, none, false, .mv (.t 58)⟩] (some [4])
def ir3_4 : IC := .seq ir3_r7 .ret
def ir3_5 : IC := .seq ir3_r6 ir3_4
def ir3_6 : IC := .seq ir3_r5 ir3_5
def ir3_7 : IC := .seq ir3_r4 ir3_6
def ir3_8 : IC := .seq ir3_r3 ir3_7
def ir3_9 : IC := .seq ir3_3 ir3_8
def ir3_10 : IC := .seq ir3_r0 ir3_9
def ir3 : IC := ir3_10
theorem fn3 : FnIs Tryd.prog 3 ir3 59 [.tmp 4] := ⟨Tryd.f3, Tryd.f3.body.getD .skip, Tryd.func3, by kernel_rfl, by kernel_rfl, by kernel_rfl, by kernel_rfl⟩
theorem checks_c (n c : Nat) (kind : Int) (xs : List Int) (hn : xs.length = n) (hB : isB xs) (hc : n ≤ c) (hco : c < openB) :
    Fc Tryd.prog 3 [.slice (some ⟨1, 0, none⟩) n c, .int .i64 kind] (Hp 2 [none, srB xs]) (.bool true) (Hp 2 [none, srB xs]) := by
  refine Fc.intro0 fn3 (by simp) rfl rfl ?_; simp only [argF]
  refine ITri.seq ?_
  refine ITri.reg pok ?_; simp -implicitDefEqProofs (disch := first | decide | exact of_eq_true (eq_true rfl) | omega | assumption) only [ ↓vcD, vcE, ↓vcG, vcF, evs, evP, evB, intsOf, fillC, Value.cells, pt, Value.oneCell', reduceIte, reduceCtorEq, Nat.reduceEqDiff, Nat.reduceAdd, Nat.reduceMul, Nat.reduceLT, Nat.reduceBEq, Nat.reduceLeDiff, Nat.reduceSub] -- r0
  refine ITri.seq ?_
  refine ITri.seq ?_
  refine ITri.reg pok ?_; simp -implicitDefEqProofs (disch := first | decide | exact of_eq_true (eq_true rfl) | omega | assumption) only [ ↓vcD, vcE, ↓vcG, vcF, evs, evP, evB, intsOf, fillC, Value.cells, pt, Value.oneCell', reduceIte, reduceCtorEq, Nat.reduceEqDiff, Nat.reduceAdd, Nat.reduceMul, Nat.reduceLT, Nat.reduceBEq, Nat.reduceLeDiff, Nat.reduceSub] -- r1
  refine ITri.condD (by rfl) (fun h1 => ?_) (fun h1 => ?_) -- %13
  · refine ITri.seq ?_
    refine ITri.reg pok ?_; simp -implicitDefEqProofs (disch := first | decide | exact of_eq_true (eq_true rfl) | omega | assumption) only [ ↓vcD, vcE, ↓vcG, vcF, evs, evP, evB, intsOf, fillC, Value.cells, pt, Value.oneCell', reduceIte, reduceCtorEq, Nat.reduceEqDiff, Nat.reduceAdd, Nat.reduceMul, Nat.reduceLT, Nat.reduceBEq, Nat.reduceLeDiff, Nat.reduceSub] -- r2
    refine ⟨_, _, knownT, ?_⟩
    try simp -implicitDefEqProofs (disch := first | decide | exact of_eq_true (eq_true rfl) | omega | assumption) only [ ↓vcD, vcE, ↓vcG, vcF, evs, evP, evB, intsOf, fillC, Value.cells, pt, Value.oneCell', reduceIte, reduceCtorEq, Nat.reduceEqDiff, Nat.reduceAdd, Nat.reduceMul, Nat.reduceLT, Nat.reduceBEq, Nat.reduceLeDiff, Nat.reduceSub]
    refine ITri.ret ?_; exact EndR.plain (by simp) (by rfl) (by rfl) (by rfl)
  refine ITri.skip ?_; simp only [SeqQ_normal, BlkQ_normal]
  refine ITri.seq ?_
  refine ITri.reg pok ?_; simp -implicitDefEqProofs (disch := first | decide | exact of_eq_true (eq_true rfl) | omega | assumption) only [ ↓vcD, vcE, ↓vcG, vcF, evs, evP, evB, intsOf, fillC, Value.cells, pt, Value.oneCell', reduceIte, reduceCtorEq, Nat.reduceEqDiff, Nat.reduceAdd, Nat.reduceMul, Nat.reduceLT, Nat.reduceBEq, Nat.reduceLeDiff, Nat.reduceSub] -- r3
  refine ⟨_, _, ownB_f hn (by omega) (sees0 rfl (of_decide_eq_true rfl)) (get_hq rfl rfl), ?_⟩
  simp -implicitDefEqProofs (disch := first | decide | exact of_eq_true (eq_true rfl) | omega | assumption) only [news_c, news_n,  ↓vcD, vcE, ↓vcG, vcF, evs, evP, evB, intsOf, fillC, Value.cells, pt, Value.oneCell', reduceIte, reduceCtorEq, Nat.reduceEqDiff, Nat.reduceAdd, Nat.reduceMul, Nat.reduceLT, Nat.reduceBEq, Nat.reduceLeDiff, Nat.reduceSub]
  refine ITri.seq ?_
  refine ITri.reg pok ?_; simp -implicitDefEqProofs (disch := first | decide | exact of_eq_true (eq_true rfl) | omega | assumption) only [ ↓vcD, vcE, ↓vcG, vcF, evs, evP, evB, intsOf, fillC, Value.cells, pt, Value.oneCell', reduceIte, reduceCtorEq, Nat.reduceEqDiff, Nat.reduceAdd, Nat.reduceMul, Nat.reduceLT, Nat.reduceBEq, Nat.reduceLeDiff, Nat.reduceSub] -- r4
  refine ⟨_, _, check_x rfl (bys_rows xs) hB hn (by omega), ?_⟩
  try simp -implicitDefEqProofs (disch := first | decide | exact of_eq_true (eq_true rfl) | omega | assumption) only [ ↓vcD, vcE, ↓vcG, vcF, evs, evP, evB, intsOf, fillC, Value.cells, pt, Value.oneCell', reduceIte, reduceCtorEq, Nat.reduceEqDiff, Nat.reduceAdd, Nat.reduceMul, Nat.reduceLT, Nat.reduceBEq, Nat.reduceLeDiff, Nat.reduceSub]
  refine ITri.seq ?_
  refine ITri.reg pok ?_; simp -implicitDefEqProofs (disch := first | decide | exact of_eq_true (eq_true rfl) | omega | assumption) only [ ↓vcD, vcE, ↓vcG, vcF, evs, evP, evB, intsOf, fillC, Value.cells, pt, Value.oneCell', reduceIte, reduceCtorEq, Nat.reduceEqDiff, Nat.reduceAdd, Nat.reduceMul, Nat.reduceLT, Nat.reduceBEq, Nat.reduceLeDiff, Nat.reduceSub] -- r5
  refine ⟨_, _, put_f hn hB (sees0 rfl (of_decide_eq_true rfl)) (get_hq rfl rfl), ?_⟩
  simp -implicitDefEqProofs (disch := first | decide | exact of_eq_true (eq_true rfl) | omega | assumption) only [news_c, news_n,  ↓vcD, vcE, ↓vcG, vcF, evs, evP, evB, intsOf, fillC, Value.cells, pt, Value.oneCell', reduceIte, reduceCtorEq, Nat.reduceEqDiff, Nat.reduceAdd, Nat.reduceMul, Nat.reduceLT, Nat.reduceBEq, Nat.reduceLeDiff, Nat.reduceSub]
  refine ITri.seq ?_
  refine ITri.reg pok ?_; simp -implicitDefEqProofs (disch := first | decide | exact of_eq_true (eq_true rfl) | omega | assumption) only [ ↓vcD, vcE, ↓vcG, vcF, evs, evP, evB, intsOf, fillC, Value.cells, pt, Value.oneCell', reduceIte, reduceCtorEq, Nat.reduceEqDiff, Nat.reduceAdd, Nat.reduceMul, Nat.reduceLT, Nat.reduceBEq, Nat.reduceLeDiff, Nat.reduceSub] -- r6
  refine ⟨_, _, rput_f hn hB (sees0 rfl (of_decide_eq_true rfl)) (get_hq rfl rfl), ?_⟩
  simp -implicitDefEqProofs (disch := first | decide | exact of_eq_true (eq_true rfl) | omega | assumption) only [news_c, news_n,  ↓vcD, vcE, ↓vcG, vcF, evs, evP, evB, intsOf, fillC, Value.cells, pt, Value.oneCell', reduceIte, reduceCtorEq, Nat.reduceEqDiff, Nat.reduceAdd, Nat.reduceMul, Nat.reduceLT, Nat.reduceBEq, Nat.reduceLeDiff, Nat.reduceSub]
  refine ITri.seq ?_
  refine ITri.reg pok ?_; simp -implicitDefEqProofs (disch := first | decide | exact of_eq_true (eq_true rfl) | omega | assumption) only [ ↓vcD, vcE, ↓vcG, vcF, evs, evP, evB, intsOf, fillC, Value.cells, pt, Value.oneCell', reduceIte, reduceCtorEq, Nat.reduceEqDiff, Nat.reduceAdd, Nat.reduceMul, Nat.reduceLT, Nat.reduceBEq, Nat.reduceLeDiff, Nat.reduceSub] -- r7
  refine ⟨_, _, rcheck_x rfl (bys_rows xs) hB hn (by omega), ?_⟩
  simp -implicitDefEqProofs (disch := first | decide | exact of_eq_true (eq_true rfl) | omega | assumption) only [decide_true,  ↓vcD, vcE, ↓vcG, vcF, evs, evP, evB, intsOf, fillC, Value.cells, pt, Value.oneCell', reduceIte, reduceCtorEq, Nat.reduceEqDiff, Nat.reduceAdd, Nat.reduceMul, Nat.reduceLT, Nat.reduceBEq, Nat.reduceLeDiff, Nat.reduceSub]
  refine gen_str rfl u_slB u_uint8 u_str rfl rfl (get_hq rfl rfl) ?_
  try simp -implicitDefEqProofs (disch := first | decide | exact of_eq_true (eq_true rfl) | omega | assumption) only [ ↓vcD, vcE, ↓vcG, vcF, evs, evP, evB, intsOf, fillC, Value.cells, pt, Value.oneCell', reduceIte, reduceCtorEq, Nat.reduceEqDiff, Nat.reduceAdd, Nat.reduceMul, Nat.reduceLT, Nat.reduceBEq, Nat.reduceLeDiff, Nat.reduceSub]
  refine gen_str rfl u_slB u_uint8 u_str rfl rfl (get_hq rfl rfl) ?_
  try simp -implicitDefEqProofs (disch := first | decide | exact of_eq_true (eq_true rfl) | omega | assumption) only [ ↓vcD, vcE, ↓vcG, vcF, evs, evP, evB, intsOf, fillC, Value.cells, pt, Value.oneCell', reduceIte, reduceCtorEq, Nat.reduceEqDiff, Nat.reduceAdd, Nat.reduceMul, Nat.reduceLT, Nat.reduceBEq, Nat.reduceLeDiff, Nat.reduceSub]
  refine gen_seq rfl rfl ?_
  simp -implicitDefEqProofs (disch := first | decide | exact of_eq_true (eq_true rfl) | omega | assumption) only [decide_true,  ↓vcD, vcE, ↓vcG, vcF, evs, evP, evB, intsOf, fillC, Value.cells, pt, Value.oneCell', reduceIte, reduceCtorEq, Nat.reduceEqDiff, Nat.reduceAdd, Nat.reduceMul, Nat.reduceLT, Nat.reduceBEq, Nat.reduceLeDiff, Nat.reduceSub]
  refine gen_str rfl u_slB u_uint8 u_str rfl hn (get_hq rfl rfl) ?_
  try simp -implicitDefEqProofs (disch := first | decide | exact of_eq_true (eq_true rfl) | omega | assumption) only [ ↓vcD, vcE, ↓vcG, vcF, evs, evP, evB, intsOf, fillC, Value.cells, pt, Value.oneCell', reduceIte, reduceCtorEq, Nat.reduceEqDiff, Nat.reduceAdd, Nat.reduceMul, Nat.reduceLT, Nat.reduceBEq, Nat.reduceLeDiff, Nat.reduceSub]
  refine gen_str rfl u_slB u_uint8 u_str rfl hn (get_hq rfl rfl) ?_
  try simp -implicitDefEqProofs (disch := first | decide | exact of_eq_true (eq_true rfl) | omega | assumption) only [ ↓vcD, vcE, ↓vcG, vcF, evs, evP, evB, intsOf, fillC, Value.cells, pt, Value.oneCell', reduceIte, reduceCtorEq, Nat.reduceEqDiff, Nat.reduceAdd, Nat.reduceMul, Nat.reduceLT, Nat.reduceBEq, Nat.reduceLeDiff, Nat.reduceSub]
  refine gen_seq rfl rfl ?_
  try simp -implicitDefEqProofs (disch := first | decide | exact of_eq_true (eq_true rfl) | omega | assumption) only [ ↓vcD, vcE, ↓vcG, vcF, evs, evP, evB, intsOf, fillC, Value.cells, pt, Value.oneCell', reduceIte, reduceCtorEq, Nat.reduceEqDiff, Nat.reduceAdd, Nat.reduceMul, Nat.reduceLT, Nat.reduceBEq, Nat.reduceLeDiff, Nat.reduceSub]
  refine ⟨_, _, knownT, ?_⟩
  try simp -implicitDefEqProofs (disch := first | decide | exact of_eq_true (eq_true rfl) | omega | assumption) only [ ↓vcD, vcE, ↓vcG, vcF, evs, evP, evB, intsOf, fillC, Value.cells, pt, Value.oneCell', reduceIte, reduceCtorEq, Nat.reduceEqDiff, Nat.reduceAdd, Nat.reduceMul, Nat.reduceLT, Nat.reduceBEq, Nat.reduceLeDiff, Nat.reduceSub]
  refine ITri.ret ?_; exact EndR.plain (by simp) (by rfl) (by rfl) (by rfl)
end Go.Proofs.YtgjokhodccacoaaDoor
