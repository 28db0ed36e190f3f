/-
  Chapter 10 at the top: slice.Judge, the walk.
-/
import Derived.Test.YtjfgbdmdnejhdaaDoorFitU
set_option linter.unusedSimpArgs false
set_option linter.unusedVariables false
namespace Go.Proofs.YtjfgbdmdnejhdaaDoor
open Go.RowKit Go.Vm
set_option maxRecDepth 100000
/- boule/slice.Judge · slots 70 · names 0:w 1:b 2:length 3:target 4:w 5:b 6:length 7:target 10:x 11:e 12:out 13:_ 14:r 15:g · results [8, 9] -/
def ir6_r0 : IC := .reg [⟨some 4, none, false, .box (.t 0)⟩,
  ⟨some 5, none, false, .box (.t 1)⟩,
  ⟨some 7, none, false, .box (.t 3)⟩,
  ⟨some 8, none, false, .mv (.k (.slice none 0 0))⟩,
  ⟨some 9, none, false, .mv (.k (.int .i64 0))⟩] (some [2, 4, 5, 7])
def ir6_r1 : IC := .reg [⟨some 17, none, false, .lda 5 (.t 4)⟩,
  ⟨some 18, none, false, .lda 5 (.t 5)⟩,
  ⟨some 19, none, false, .mv (.t 2)⟩,
  ⟨some 20, none, false, .call (.f 5) [(.t 17), (.t 18), (.t 19)]⟩,
  ⟨some 16, none, false, .mv (.t 20)⟩,
  ⟨some 21, none, false, .ext (.t 16) 0⟩,
  ⟨some 22, none, false, .ext (.t 16) 1⟩,
  ⟨some 10, none, false, .alloc [(.slice none 0 0), (.int .i64 0), (.int .i64 0), (.int .i64 0), (.int .i64 0), (.int .i64 0), (.int .i64 0), (.int .u8 0)]⟩,
  ⟨none, none, false, .st 8 (.t 10) (.t 21)⟩,
  ⟨some 11, none, false, .mv (.t 22)⟩] (some [7, 10, 11])
def ir6_r2 : IC := .reg [⟨some 24, none, false, .mv (.t 11)⟩,
  ⟨some 25, none, false, .cmp .neq (.t 24) (.k (.int .i64 0))⟩,
  ⟨some 23, none, false, .mv (.t 25)⟩] (some [7, 10, 11, 23])
def ir6_r3 : IC := .reg [⟨some 26, none, false, .mv (.t 11)⟩,
  ⟨some 8, none, false, .mv (.k (.slice none 0 0))⟩,
  ⟨some 9, none, false, .mv (.t 26)⟩] (some [8, 9])
def ir6_1 : IC := .seq ir6_r3 .ret
def ir6_r4 : IC := .reg [⟨some 28, none, false, .fad 0 (.t 7)⟩,
  ⟨some 29, none, false, .ldc (.t 28)⟩,
  ⟨some 30, none, false, .fad 1 (.t 7)⟩,
  ⟨some 31, none, false, .ldc (.t 30)⟩,
  ⟨some 32, none, false, .cmp .gtr (.t 29) (.t 31)⟩,
  ⟨some 27, none, false, .mv (.t 32)⟩] (some [7, 10, 27])
def ir6_r5 : IC := .reg [⟨some 8, none, false, .mv (.k (.slice none 0 0))⟩,
  ⟨some 9, none, false, .mv (.k (.int .i64 2))⟩] (some [8, 9])
def ir6_2 : IC := .seq ir6_r5 .ret
def ir6_3 : IC := .cond (.t 27) ir6_2 .skip
def ir6_4 : IC := .seq ir6_r4 ir6_3
def ir6_5 : IC := .cond (.t 23) ir6_1 ir6_4
def ir6_6 : IC := .seq ir6_r2 ir6_5
def ir6_7 : IC := .block 0 ir6_6
def ir6_r6 : IC := .reg [⟨some 12, none, false, .mv (.k (.slice none 0 0))⟩] (some [7, 10, 12])
def ir6_r7 : IC := .reg [⟨some 33, none, false, .fad 0 (.t 10)⟩,
  ⟨some 34, none, false, .ldc (.t 33)⟩,
  ⟨some 35, none, false, .len (.t 34)⟩,
  ⟨some 36, none, false, .mv (.k (.int .i64 0))⟩] (some [7, 12, 34, 35, 36])
def ir6_r8 : IC := .reg [⟨some 37, none, false, .cmp .lss (.t 36) (.t 35)⟩] (some [7, 12, 34, 35, 36, 37])
def ir6_8 : IC := .cond (.t 37) .skip (.exit 1)
def ir6_r9 : IC := .reg [⟨some 38, none, false, .iad 2 (.t 34) (.t 36)⟩,
  ⟨some 39, none, false, .lda 2 (.t 38)⟩,
  ⟨some 14, none, false, .alloc [(.int .i64 0), (.int .i64 0)]⟩,
  ⟨none, none, false, .st 2 (.t 14) (.t 39)⟩] (some [7, 12, 14, 34, 35, 36])
def ir6_r10 : IC := .reg [⟨some 15, none, false, .mv (.k (.int .u8 2))⟩] (some [7, 12, 14, 15, 34, 35, 36])
def ir6_r11 : IC := .reg [⟨some 40, none, false, .fad 0 (.t 14)⟩,
  ⟨some 41, none, false, .ldc (.t 40)⟩,
  ⟨some 42, none, false, .fad 0 (.t 7)⟩,
  ⟨some 43, none, false, .ldc (.t 42)⟩,
  ⟨some 44, none, false, .cmp .geq (.t 41) (.t 43)⟩,
  ⟨some 45, none, false, .mv (.t 44)⟩,
  ⟨some 46, some (45, true), false, .fad 1 (.t 14)⟩,
  ⟨some 47, some (45, true), false, .ldc (.t 46)⟩,
  ⟨some 48, some (45, true), false, .fad 1 (.t 7)⟩,
  ⟨some 49, some (45, true), false, .ldc (.t 48)⟩,
  ⟨some 50, some (45, true), false, .cmp .leq (.t 47) (.t 49)⟩,
  ⟨some 51, none, false, .pick (.t 45) (.t 50) (.k (.bool false))⟩] (some [7, 12, 14, 15, 34, 35, 36, 51])
def ir6_r12 : IC := .reg [⟨some 15, none, false, .mv (.k (.int .u8 1))⟩] (some [7, 12, 14, 15, 34, 35, 36])
def ir6_9 : IC := .cond (.t 51) ir6_r12 .skip
def ir6_10 : IC := .seq ir6_r11 ir6_9
def ir6_r13 : IC := .reg [⟨some 52, none, false, .fad 0 (.t 14)⟩,
  ⟨some 53, none, false, .ldc (.t 52)⟩,
  ⟨some 54, none, false, .fad 1 (.t 7)⟩,
  ⟨some 55, none, false, .ldc (.t 54)⟩,
  ⟨some 56, none, false, .cmp .gtr (.t 53) (.t 55)⟩,
  ⟨some 57, none, false, .mv (.t 56)⟩,
  ⟨some 58, some (57, false), false, .fad 1 (.t 14)⟩,
  ⟨some 59, some (57, false), false, .ldc (.t 58)⟩,
  ⟨some 60, some (57, false), false, .fad 0 (.t 7)⟩,
  ⟨some 61, some (57, false), false, .ldc (.t 60)⟩,
  ⟨some 62, some (57, false), false, .cmp .lss (.t 59) (.t 61)⟩,
  ⟨some 63, none, false, .pick (.t 57) (.k (.bool true)) (.t 62)⟩] (some [7, 12, 15, 34, 35, 36, 63])
def ir6_r14 : IC := .reg [⟨some 15, none, false, .mv (.k (.int .u8 3))⟩] (some [7, 12, 15, 34, 35, 36])
def ir6_11 : IC := .cond (.t 63) ir6_r14 .skip
def ir6_12 : IC := .seq ir6_r13 ir6_11
def ir6_r15 : IC := .reg [⟨some 64, none, false, .mv (.t 12)⟩,
  ⟨some 65, none, false, .mv (.t 15)⟩,
  ⟨some 66, none, false, .bsl 1 1 [(.int .u8 0)] [(0, (.t 65))]⟩,
  ⟨some 67, none, false, .app 1 1 (.t 64) (.t 66)⟩,
  ⟨some 12, none, false, .mv (.t 67)⟩] (some [7, 12, 34, 35, 36])
def ir6_13 : IC := .seq ir6_12 ir6_r15
def ir6_14 : IC := .seq ir6_10 ir6_13
def ir6_15 : IC := .seq ir6_r10 ir6_14
def ir6_16 : IC := .seq ir6_r9 ir6_15
def ir6_17 : IC := .block 2 ir6_16
def ir6_r16 : IC := .reg [⟨some 68, none, false, .ar .add (.t 36) (.k (.int .i64 1))⟩,
  ⟨some 36, none, false, .mv (.t 68)⟩] (some [7, 12, 34, 35, 36])
def ir6_18 : IC := .seq ir6_17 ir6_r16
def ir6_19 : IC := .seq ir6_8 ir6_18
def ir6_20 : IC := .seq ir6_r8 ir6_19
def ir6_21 : IC := .loop ir6_20
def ir6_22 : IC := .block 1 ir6_21
def ir6_23 : IC := .seq ir6_r7 ir6_22
def ir6_r17 : IC := .reg [⟨some 69, none, false, .mv (.t 12)⟩,
  ⟨some 8, none, false, .mv (.t 69)⟩,
  ⟨some 9, none, false, .mv (.k (.int .i64 0))⟩] (some [8, 9])
def ir6_24 : IC := .seq ir6_r17 .ret
def ir6_25 : IC := .seq ir6_23 ir6_24
def ir6_26 : IC := .seq ir6_r6 ir6_25
def ir6_27 : IC := .seq ir6_7 ir6_26
def ir6_28 : IC := .seq ir6_r1 ir6_27
def ir6_29 : IC := .seq ir6_r0 ir6_28
def ir6 : IC := ir6_29
theorem fn6 : FnIs Tryd.prog 6 ir6 70 [.tmp 8, .tmp 9] := ⟨Tryd.f6, Tryd.f6.body.getD .skip, Tryd.func6, by kernel_rfl, by kernel_rfl, by kernel_rfl, by kernel_rfl⟩
section
variable {c : Wb} {len tl th : Int}
abbrev rngV (a b : Int) : Value := .agg #[.int .i64 a, .int .i64 b]
theorem judgeE_c {e : Int} (he : ckE c len = e) (h0 : e ≠ 0) : Fc Tryd.prog 6 [wirV c, webV c, .int .i64 len, rngV tl th] (Hp 1 [none]) (.tuple #[.slice none 0 0, .int .i64 e]) (Hp 1 [none]) := by
  refine Fc.intro0 fn6 (by simp) rfl rfl ?_; simp only [argF]
  refine ITri.seq ?_
  refine ITri.reg pok ?_; simp -implicitDefEqProofs (disch := first | decide | exact of_eq_true (eq_true rfl) | omega | assumption) only [ ↓vcD, vcE, ↓vcG, vcF, evs, evP, evB, intsOf, fillC, Value.cells, pt, Value.oneCell', reduceIte, reduceCtorEq, Nat.reduceEqDiff, Nat.reduceAdd, Nat.reduceMul, Nat.reduceLT, Nat.reduceBEq, Nat.reduceLeDiff, Nat.reduceSub] -- r0
  refine ITri.seq ?_
  refine ITri.reg pok ?_; simp -implicitDefEqProofs (disch := first | decide | exact of_eq_true (eq_true rfl) | omega | assumption) only [ ↓vcD, vcE, ↓vcG, vcF, evs, evP, evB, intsOf, fillC, Value.cells, pt, Value.oneCell', reduceIte, reduceCtorEq, Nat.reduceEqDiff, Nat.reduceAdd, Nat.reduceMul, Nat.reduceLT, Nat.reduceBEq, Nat.reduceLeDiff, Nat.reduceSub] -- r1
  refine ⟨_, _, predictE_f he h0 (sees0 rfl (of_decide_eq_true rfl)), ?_⟩
  simp -implicitDefEqProofs (disch := first | decide | exact of_eq_true (eq_true rfl) | omega | assumption) only [wr8d,  ↓vcD, vcE, ↓vcG, vcF, evs, evP, evB, intsOf, fillC, Value.cells, pt, Value.oneCell', reduceIte, reduceCtorEq, Nat.reduceEqDiff, Nat.reduceAdd, Nat.reduceMul, Nat.reduceLT, Nat.reduceBEq, Nat.reduceLeDiff, Nat.reduceSub]
  refine ITri.seq ?_
  refine ITri.block ?_ -- 0
  refine ITri.seq ?_
  refine ITri.reg pok ?_; simp -implicitDefEqProofs (disch := first | decide | exact of_eq_true (eq_true rfl) | omega | assumption) only [h0, decide_false, Bool.not_false,  ↓vcD, vcE, ↓vcG, vcF, evs, evP, evB, intsOf, fillC, Value.cells, pt, Value.oneCell', reduceIte, reduceCtorEq, Nat.reduceEqDiff, Nat.reduceAdd, Nat.reduceMul, Nat.reduceLT, Nat.reduceBEq, Nat.reduceLeDiff, Nat.reduceSub] -- r2
  refine ITri.cond (v := true) rfl (fun _ => ?_) (fun h => by cases h)
  refine ITri.seq ?_
  refine ITri.reg pok ?_; simp -implicitDefEqProofs (disch := first | decide | exact of_eq_true (eq_true rfl) | omega | assumption) only [ ↓vcD, vcE, ↓vcG, vcF, evs, evP, evB, intsOf, fillC, Value.cells, pt, Value.oneCell', reduceIte, reduceCtorEq, Nat.reduceEqDiff, Nat.reduceAdd, Nat.reduceMul, Nat.reduceLT, Nat.reduceBEq, Nat.reduceLeDiff, Nat.reduceSub] -- r3
  refine ITri.ret ?_; exact EndR.plain (vs := [.slice none 0 0, .int .i64 e]) (by simp) (by rfl) (by rfl) (by rfl)
theorem judgeX_c (V : Vd c len) (h0 : ckE c len = 0) (ht : th < tl) : Fc Tryd.prog 6 [wirV c, webV c, .int .i64 len, rngV tl th] (Hp 1 [none]) (.tuple #[.slice none 0 0, .int .i64 2]) (Hp 1 [none]) := by
  obtain ⟨a1, a2, a3, a4, a5, a6, a7, F⟩ := predict_f V h0
  refine Fc.intro0 fn6 (by simp) rfl rfl ?_; simp only [argF]
  refine ITri.seq ?_
  refine ITri.reg pok ?_; simp -implicitDefEqProofs (disch := first | decide | exact of_eq_true (eq_true rfl) | omega | assumption) only [ ↓vcD, vcE, ↓vcG, vcF, evs, evP, evB, intsOf, fillC, Value.cells, pt, Value.oneCell', reduceIte, reduceCtorEq, Nat.reduceEqDiff, Nat.reduceAdd, Nat.reduceMul, Nat.reduceLT, Nat.reduceBEq, Nat.reduceLeDiff, Nat.reduceSub] -- r0
  refine ITri.seq ?_
  refine ITri.reg pok ?_; simp -implicitDefEqProofs (disch := first | decide | exact of_eq_true (eq_true rfl) | omega | assumption) only [ ↓vcD, vcE, ↓vcG, vcF, evs, evP, evB, intsOf, fillC, Value.cells, pt, Value.oneCell', reduceIte, reduceCtorEq, Nat.reduceEqDiff, Nat.reduceAdd, Nat.reduceMul, Nat.reduceLT, Nat.reduceBEq, Nat.reduceLeDiff, Nat.reduceSub] -- r1
  refine ⟨_, _, F _ (sees0 rfl (of_decide_eq_true rfl)), ?_⟩
  simp -implicitDefEqProofs (disch := first | decide | exact of_eq_true (eq_true rfl) | omega | assumption) only [news_c, news_n, wr8d,  ↓vcD, vcE, ↓vcG, vcF, evs, evP, evB, intsOf, fillC, Value.cells, pt, Value.oneCell', reduceIte, reduceCtorEq, Nat.reduceEqDiff, Nat.reduceAdd, Nat.reduceMul, Nat.reduceLT, Nat.reduceBEq, Nat.reduceLeDiff, Nat.reduceSub]
  refine ITri.seq ?_
  refine ITri.block ?_ -- 0
  refine ITri.seq ?_
  refine ITri.reg pok ?_; simp -implicitDefEqProofs (disch := first | decide | exact of_eq_true (eq_true rfl) | omega | assumption) only [ ↓vcD, vcE, ↓vcG, vcF, evs, evP, evB, intsOf, fillC, Value.cells, pt, Value.oneCell', reduceIte, reduceCtorEq, Nat.reduceEqDiff, Nat.reduceAdd, Nat.reduceMul, Nat.reduceLT, Nat.reduceBEq, Nat.reduceLeDiff, Nat.reduceSub] -- r2
  refine ITri.cond (v := false) rfl (fun h => by cases h) (fun _ => ?_)
  refine ITri.seq ?_
  have ht' : tl > th := ht
  refine ITri.reg pok ?_; simp -implicitDefEqProofs (disch := first | decide | exact of_eq_true (eq_true rfl) | omega | assumption) only [ht', decide_true,  ↓vcD, vcE, ↓vcG, vcF, evs, evP, evB, intsOf, fillC, Value.cells, pt, Value.oneCell', reduceIte, reduceCtorEq, Nat.reduceEqDiff, Nat.reduceAdd, Nat.reduceMul, Nat.reduceLT, Nat.reduceBEq, Nat.reduceLeDiff, Nat.reduceSub] -- r4
  refine ITri.cond (v := true) rfl (fun _ => ?_) (fun h => by cases h)
  refine ITri.seq ?_
  refine ITri.reg pok ?_; simp -implicitDefEqProofs (disch := first | decide | exact of_eq_true (eq_true rfl) | omega | assumption) only [ ↓vcD, vcE, ↓vcG, vcF, evs, evP, evB, intsOf, fillC, Value.cells, pt, Value.oneCell', reduceIte, reduceCtorEq, Nat.reduceEqDiff, Nat.reduceAdd, Nat.reduceMul, Nat.reduceLT, Nat.reduceBEq, Nat.reduceLeDiff, Nat.reduceSub] -- r5
  refine ITri.ret ?_; exact EndR.plain (vs := [.slice none 0 0, .int .i64 2]) (by simp) (by rfl) (by rfl) (by rfl)
set_option maxHeartbeats 2000000 in
theorem judge_c (V : Vd c len) (h0 : ckE c len = 0) (ht : tl ≤ th) : Fc Tryd.prog 6 [wirV c, webV c, .int .i64 len, rngV tl th] (Hp 1 [none]) (.tuple #[.slice (some ⟨1, 0, none⟩) (usF c len - 1) openB, .int .i64 0]) ((Hp 1 [none]).news [.cells ⟨rows eY (grL tl th (tkS c len) (tnS c len) (usF c len - 1)), 1, true⟩]) := by
  have hu := usF_le V
  have hg2 := V.g2
  have hm : usF c len - 1 ≤ 2000 := by omega
  obtain ⟨a1, a2, a3, a4, a5, a6, a7, F⟩ := predict_f V h0
  generalize hM : usF c len - 1 = m at *
  generalize tkS c len = tS at *
  generalize tnS c len = nS at *
  refine Fc.introR fn6 (by simp) rfl rfl ?_; simp only [argF]
  refine ITri.seq ?_
  refine ITri.reg pok ?_; simp -implicitDefEqProofs (disch := first | decide | exact of_eq_true (eq_true rfl) | omega | assumption) only [ ↓vcD, vcE, ↓vcG, vcF, evs, evP, evB, intsOf, fillC, Value.cells, pt, Value.oneCell', reduceIte, reduceCtorEq, Nat.reduceEqDiff, Nat.reduceAdd, Nat.reduceMul, Nat.reduceLT, Nat.reduceBEq, Nat.reduceLeDiff, Nat.reduceSub] -- r0
  refine ITri.seq ?_
  refine ITri.reg pok ?_; simp -implicitDefEqProofs (disch := first | decide | exact of_eq_true (eq_true rfl) | omega | assumption) only [ ↓vcD, vcE, ↓vcG, vcF, evs, evP, evB, intsOf, fillC, Value.cells, pt, Value.oneCell', reduceIte, reduceCtorEq, Nat.reduceEqDiff, Nat.reduceAdd, Nat.reduceMul, Nat.reduceLT, Nat.reduceBEq, Nat.reduceLeDiff, Nat.reduceSub] -- r1
  refine ⟨_, _, F _ (sees0 rfl (of_decide_eq_true rfl)), ?_⟩
  simp -implicitDefEqProofs (disch := first | decide | exact of_eq_true (eq_true rfl) | omega | assumption) only [news_c, news_n, wr8d,  ↓vcD, vcE, ↓vcG, vcF, evs, evP, evB, intsOf, fillC, Value.cells, pt, Value.oneCell', reduceIte, reduceCtorEq, Nat.reduceEqDiff, Nat.reduceAdd, Nat.reduceMul, Nat.reduceLT, Nat.reduceBEq, Nat.reduceLeDiff, Nat.reduceSub]
  refine ITri.seq ?_
  refine ITri.block ?_ -- 0
  refine ITri.seq ?_
  refine ITri.reg pok ?_; simp -implicitDefEqProofs (disch := first | decide | exact of_eq_true (eq_true rfl) | omega | assumption) only [ ↓vcD, vcE, ↓vcG, vcF, evs, evP, evB, intsOf, fillC, Value.cells, pt, Value.oneCell', reduceIte, reduceCtorEq, Nat.reduceEqDiff, Nat.reduceAdd, Nat.reduceMul, Nat.reduceLT, Nat.reduceBEq, Nat.reduceLeDiff, Nat.reduceSub] -- r2
  refine ITri.cond (v := false) rfl (fun h => by cases h) (fun _ => ?_)
  refine ITri.seq ?_
  have ht' : ¬ tl > th := by omega
  refine ITri.reg pok ?_; simp -implicitDefEqProofs (disch := first | decide | exact of_eq_true (eq_true rfl) | omega | assumption) only [ht', decide_false,  ↓vcD, vcE, ↓vcG, vcF, evs, evP, evB, intsOf, fillC, Value.cells, pt, Value.oneCell', reduceIte, reduceCtorEq, Nat.reduceEqDiff, Nat.reduceAdd, Nat.reduceMul, Nat.reduceLT, Nat.reduceBEq, Nat.reduceLeDiff, Nat.reduceSub] -- r4
  refine ITri.cond (v := false) rfl (fun h => by cases h) (fun _ => ?_); refine ITri.skip ?_; simp only [SeqQ_normal, BlkQ_normal]
  refine ITri.seq ?_
  refine ITri.reg pok ?_; simp -implicitDefEqProofs (disch := first | decide | exact of_eq_true (eq_true rfl) | omega | assumption) only [ ↓vcD, vcE, ↓vcG, vcF, evs, evP, evB, intsOf, fillC, Value.cells, pt, Value.oneCell', reduceIte, reduceCtorEq, Nat.reduceEqDiff, Nat.reduceAdd, Nat.reduceMul, Nat.reduceLT, Nat.reduceBEq, Nat.reduceLeDiff, Nat.reduceSub] -- r6
  refine ITri.seq ?_
  refine ITri.seq ?_
  refine ITri.reg pok ?_; simp -implicitDefEqProofs (disch := first | decide | exact of_eq_true (eq_true rfl) | omega | assumption) only [ ↓vcD, vcE, ↓vcG, vcF, evs, evP, evB, intsOf, fillC, Value.cells, pt, Value.oneCell', reduceIte, reduceCtorEq, Nat.reduceEqDiff, Nat.reduceAdd, Nat.reduceMul, Nat.reduceLT, Nat.reduceBEq, Nat.reduceLeDiff, Nat.reduceSub] -- r7
  refine ITri.block ?_ -- 1
  refine ITri.loop (fun s : PS => [(7, pt 3), (12, s.v), (34, .slice (some ⟨4, 0, none⟩) m openB), (35, .int .i64 m), (36, .int .i64 s.i)]) (fun _ => []) (fun s => Hp 1 s.M) (JI m tl th tS nS) (fun s => m - s.i) ⟨0, .slice none 0 0, _⟩ ⟨Nat.zero_le _, rfl, rfl, .inl ⟨rfl, rfl⟩⟩ (Wk.sub ⟨rfl, rfl, rfl, rfl, rfl, trivial⟩) fun s I => ?_
  refine ITri.seq ?_
  refine ITri.reg pok ?_; simp -implicitDefEqProofs (disch := first | decide | exact of_eq_true (eq_true rfl) | omega | assumption) only [ ↓vcD, vcE, ↓vcG, vcF, evs, evP, evB, intsOf, fillC, Value.cells, pt, Value.oneCell', reduceIte, reduceCtorEq, Nat.reduceEqDiff, Nat.reduceAdd, Nat.reduceMul, Nat.reduceLT, Nat.reduceBEq, Nat.reduceLeDiff, Nat.reduceSub] -- r8
  refine ITri.seq ?_
  refine ITri.condD (by rfl) (fun h3 => ?_) (fun h3 => ?_) -- %37
  · have hix : s.i < m := by omega
    have g1 := pairs_at tS nS m s.i hix
    have hi1 : (s.i : Int) + 1 = ((s.i + 1 : Nat) : Int) := by omega
    have hl := get_lt I.pr
    have hl1 : 1 ≤ s.M.length := by omega
    have I1 := I.grow (some (AObj.cells ⟨[.int .i64 (nth tS s.i), .int .i64 (nth nS s.i)], 1, false⟩))
    obtain ⟨M1, hM1⟩ : ∃ M1, s.M ++ [some (AObj.cells ⟨[.int .i64 (nth tS s.i), .int .i64 (nth nS s.i)], 1, false⟩)] = M1 := ⟨_, rfl⟩
    rw [hM1] at I1
    have q1 : M1[s.M.length]? = some (some (AObj.cells ⟨[.int .i64 (nth tS s.i), .int .i64 (nth nS s.i)], 1, false⟩)) := by
      rw [← hM1, List.getElem?_append_right (Nat.le_refl _), Nat.sub_self]; rfl
    have q3 := I1.tg
    have hl2 : 1 ≤ M1.length := by rw [← hM1, List.length_append]; omega
    generalize ha : nth tS s.i = a at *
    generalize hb : nth nS s.i = b at *
    refine ITri.skip ?_; simp only [SeqQ_normal, BlkQ_normal]
    refine ITri.seq ?_
    refine ITri.block ?_ -- 2
    refine ITri.seq ?_
    refine ITri.reg pok ?_; simp -implicitDefEqProofs (disch := first | decide | exact of_eq_true (eq_true rfl) | omega | assumption) only [I.pr, g1, apd_get, apd_get0, apd_set0, apd_set, List.length_append, List.append_assoc, Nat.add_assoc, hl1,  ↓vcD, vcE, ↓vcG, vcF, evs, evP, evB, intsOf, fillC, Value.cells, pt, Value.oneCell', reduceIte, reduceCtorEq, Nat.reduceEqDiff, Nat.reduceAdd, Nat.reduceMul, Nat.reduceLT, Nat.reduceBEq, Nat.reduceLeDiff, Nat.reduceSub] -- r9
    rw [hM1]
    refine ITri.seq ?_
    refine ITri.reg pok ?_; simp -implicitDefEqProofs (disch := first | decide | exact of_eq_true (eq_true rfl) | omega | assumption) only [ ↓vcD, vcE, ↓vcG, vcF, evs, evP, evB, intsOf, fillC, Value.cells, pt, Value.oneCell', reduceIte, reduceCtorEq, Nat.reduceEqDiff, Nat.reduceAdd, Nat.reduceMul, Nat.reduceLT, Nat.reduceBEq, Nat.reduceLeDiff, Nat.reduceSub] -- r10
    refine ITri.seq ?_
    refine ITri.atF (l2 := [(7, pt 3), (12, s.v), (14, .pointer (some ⟨s.M.length, 0, none⟩)), (15, .int .u8 (gr1 tl th a b)), (34, .slice (some ⟨4, 0, none⟩) m openB), (35, .int .i64 m), (36, .int .i64 s.i)]) (h2 := Hp 1 M1) ?_ ?_
    · refine ITri.seq ?_
      by_cases c1 : a ≥ tl
      · by_cases c2 : b ≤ th
        · rw [show gr1 tl th a b = 1 from if_pos ⟨c1, c2⟩]
          refine ITri.reg pok ?_; simp -implicitDefEqProofs (disch := first | decide | exact of_eq_true (eq_true rfl) | omega | assumption) only [q1, q3, c1, c2, decide_true,  ↓vcD, vcE, ↓vcG, vcF, evs, evP, evB, intsOf, fillC, Value.cells, pt, Value.oneCell', reduceIte, reduceCtorEq, Nat.reduceEqDiff, Nat.reduceAdd, Nat.reduceMul, Nat.reduceLT, Nat.reduceBEq, Nat.reduceLeDiff, Nat.reduceSub] -- r11
          refine ITri.cond (v := true) rfl (fun _ => ?_) (fun h => by cases h)
          refine ITri.reg pok ?_; simp -implicitDefEqProofs (disch := first | decide | exact of_eq_true (eq_true rfl) | omega | assumption) only [ ↓vcD, vcE, ↓vcG, vcF, evs, evP, evB, intsOf, fillC, Value.cells, pt, Value.oneCell', reduceIte, reduceCtorEq, Nat.reduceEqDiff, Nat.reduceAdd, Nat.reduceMul, Nat.reduceLT, Nat.reduceBEq, Nat.reduceLeDiff, Nat.reduceSub] -- r12
          exact AtF.mk ⟨rfl, rfl, rfl, rfl, rfl, rfl, rfl, trivial⟩
        · rw [show gr1 tl th a b = 2 from if_neg fun h => c2 h.2]
          refine ITri.reg pok ?_; simp -implicitDefEqProofs (disch := first | decide | exact of_eq_true (eq_true rfl) | omega | assumption) only [q1, q3, c1, c2, decide_true, decide_false,  ↓vcD, vcE, ↓vcG, vcF, evs, evP, evB, intsOf, fillC, Value.cells, pt, Value.oneCell', reduceIte, reduceCtorEq, Nat.reduceEqDiff, Nat.reduceAdd, Nat.reduceMul, Nat.reduceLT, Nat.reduceBEq, Nat.reduceLeDiff, Nat.reduceSub] -- r11
          refine ITri.cond (v := false) rfl (fun h => by cases h) (fun _ => ?_)
          refine ITri.skip ?_
          exact AtF.mk ⟨rfl, rfl, rfl, rfl, rfl, rfl, rfl, trivial⟩
      · rw [show gr1 tl th a b = 2 from if_neg fun h => c1 h.1]
        refine ITri.reg pok ?_; simp -implicitDefEqProofs (disch := first | decide | exact of_eq_true (eq_true rfl) | omega | assumption) only [q1, q3, c1, decide_false,  ↓vcD, vcE, ↓vcG, vcF, evs, evP, evB, intsOf, fillC, Value.cells, pt, Value.oneCell', reduceIte, reduceCtorEq, Nat.reduceEqDiff, Nat.reduceAdd, Nat.reduceMul, Nat.reduceLT, Nat.reduceBEq, Nat.reduceLeDiff, Nat.reduceSub] -- r11
        refine ITri.cond (v := false) rfl (fun h => by cases h) (fun _ => ?_)
        refine ITri.skip ?_
        exact AtF.mk ⟨rfl, rfl, rfl, rfl, rfl, rfl, rfl, trivial⟩
    refine ITri.seq ?_
    refine ITri.atF (l2 := [(7, pt 3), (12, s.v), (15, .int .u8 (grI tl th a b)), (34, .slice (some ⟨4, 0, none⟩) m openB), (35, .int .i64 m), (36, .int .i64 s.i)]) (h2 := Hp 1 M1) ?_ ?_
    · refine ITri.seq ?_
      by_cases c1 : a > th
      · rw [show grI tl th a b = 3 from if_pos (.inl c1)]
        refine ITri.reg pok ?_; simp -implicitDefEqProofs (disch := first | decide | exact of_eq_true (eq_true rfl) | omega | assumption) only [q1, q3, c1, decide_true,  ↓vcD, vcE, ↓vcG, vcF, evs, evP, evB, intsOf, fillC, Value.cells, pt, Value.oneCell', reduceIte, reduceCtorEq, Nat.reduceEqDiff, Nat.reduceAdd, Nat.reduceMul, Nat.reduceLT, Nat.reduceBEq, Nat.reduceLeDiff, Nat.reduceSub] -- r13
        refine ITri.cond (v := true) rfl (fun _ => ?_) (fun h => by cases h)
        refine ITri.reg pok ?_; simp -implicitDefEqProofs (disch := first | decide | exact of_eq_true (eq_true rfl) | omega | assumption) only [ ↓vcD, vcE, ↓vcG, vcF, evs, evP, evB, intsOf, fillC, Value.cells, pt, Value.oneCell', reduceIte, reduceCtorEq, Nat.reduceEqDiff, Nat.reduceAdd, Nat.reduceMul, Nat.reduceLT, Nat.reduceBEq, Nat.reduceLeDiff, Nat.reduceSub] -- r14
        exact AtF.mk ⟨rfl, rfl, rfl, rfl, rfl, rfl, trivial⟩
      · by_cases c2 : b < tl
        · rw [show grI tl th a b = 3 from if_pos (.inr c2)]
          refine ITri.reg pok ?_; simp -implicitDefEqProofs (disch := first | decide | exact of_eq_true (eq_true rfl) | omega | assumption) only [q1, q3, c1, c2, decide_true, decide_false,  ↓vcD, vcE, ↓vcG, vcF, evs, evP, evB, intsOf, fillC, Value.cells, pt, Value.oneCell', reduceIte, reduceCtorEq, Nat.reduceEqDiff, Nat.reduceAdd, Nat.reduceMul, Nat.reduceLT, Nat.reduceBEq, Nat.reduceLeDiff, Nat.reduceSub] -- r13
          refine ITri.cond (v := true) rfl (fun _ => ?_) (fun h => by cases h)
          refine ITri.reg pok ?_; simp -implicitDefEqProofs (disch := first | decide | exact of_eq_true (eq_true rfl) | omega | assumption) only [ ↓vcD, vcE, ↓vcG, vcF, evs, evP, evB, intsOf, fillC, Value.cells, pt, Value.oneCell', reduceIte, reduceCtorEq, Nat.reduceEqDiff, Nat.reduceAdd, Nat.reduceMul, Nat.reduceLT, Nat.reduceBEq, Nat.reduceLeDiff, Nat.reduceSub] -- r14
          exact AtF.mk ⟨rfl, rfl, rfl, rfl, rfl, rfl, trivial⟩
        · rw [show grI tl th a b = gr1 tl th a b from if_neg (by rintro (h | h); exact c1 h; exact c2 h)]
          refine ITri.reg pok ?_; simp -implicitDefEqProofs (disch := first | decide | exact of_eq_true (eq_true rfl) | omega | assumption) only [q1, q3, c1, c2, decide_false,  ↓vcD, vcE, ↓vcG, vcF, evs, evP, evB, intsOf, fillC, Value.cells, pt, Value.oneCell', reduceIte, reduceCtorEq, Nat.reduceEqDiff, Nat.reduceAdd, Nat.reduceMul, Nat.reduceLT, Nat.reduceBEq, Nat.reduceLeDiff, Nat.reduceSub] -- r13
          refine ITri.cond (v := false) rfl (fun h => by cases h) (fun _ => ?_)
          refine ITri.skip ?_
          exact AtF.mk ⟨rfl, rfl, rfl, rfl, rfl, rfl, trivial⟩
    simp only [SeqQ_normal, BlkQ_normal]
    refine ITri.reg pok ?_; simp -implicitDefEqProofs (disch := first | decide | exact of_eq_true (eq_true rfl) | omega | assumption) only [hl2,  ↓vcD, vcE, ↓vcG, vcF, evs, evP, evB, intsOf, fillC, Value.cells, pt, Value.oneCell', reduceIte, reduceCtorEq, Nat.reduceEqDiff, Nat.reduceAdd, Nat.reduceMul, Nat.reduceLT, Nat.reduceBEq, Nat.reduceLeDiff, Nat.reduceSub] -- r15
    obtain ⟨k', M', J, q⟩ := ji_app I1 hix hm (g := grI tl th a b) (by rw [ha, hb])
    refine q _ ?_
    try simp -implicitDefEqProofs (disch := first | decide | exact of_eq_true (eq_true rfl) | omega | assumption) only [ ↓vcD, vcE, ↓vcG, vcF, evs, evP, evB, intsOf, fillC, Value.cells, pt, Value.oneCell', reduceIte, reduceCtorEq, Nat.reduceEqDiff, Nat.reduceAdd, Nat.reduceMul, Nat.reduceLT, Nat.reduceBEq, Nat.reduceLeDiff, Nat.reduceSub]
    refine ITri.reg pok ?_; simp -implicitDefEqProofs (disch := first | decide | exact of_eq_true (eq_true rfl) | omega | assumption) only [hi1,  ↓vcD, vcE, ↓vcG, vcF, evs, evP, evB, intsOf, fillC, Value.cells, pt, Value.oneCell', reduceIte, reduceCtorEq, Nat.reduceEqDiff, Nat.reduceAdd, Nat.reduceMul, Nat.reduceLT, Nat.reduceBEq, Nat.reduceLeDiff, Nat.reduceSub] -- r16
    exact LoopQ.next ⟨s.i + 1, _, _⟩ J (by show m - (s.i + 1) < m - s.i; omega) (Wk.sub ⟨rfl, rfl, rfl, rfl, rfl, trivial⟩)
  refine ITri.exit ?_; try simp -implicitDefEqProofs (disch := first | decide | exact of_eq_true (eq_true rfl) | omega | assumption) only [ ↓vcD, vcE, ↓vcG, vcF, evs, evP, evB, intsOf, fillC, Value.cells, pt, Value.oneCell', reduceIte, reduceCtorEq, Nat.reduceEqDiff, Nat.reduceAdd, Nat.reduceMul, Nat.reduceLT, Nat.reduceBEq, Nat.reduceLeDiff, Nat.reduceSub] -- exit 1
  have him : s.i = m := by have := I.le; omega
  refine ITri.seq ?_
  refine ITri.reg pok ?_; simp -implicitDefEqProofs (disch := first | decide | exact of_eq_true (eq_true rfl) | omega | assumption) only [ ↓vcD, vcE, ↓vcG, vcF, evs, evP, evB, intsOf, fillC, Value.cells, pt, Value.oneCell', reduceIte, reduceCtorEq, Nat.reduceEqDiff, Nat.reduceAdd, Nat.reduceMul, Nat.reduceLT, Nat.reduceBEq, Nat.reduceLeDiff, Nat.reduceSub] -- r17
  refine ITri.ret ?_
  rcases I.row with ⟨h1, h2⟩ | ⟨k, hk, h2, hkr⟩
  · have hm0 : m = 0 := by omega
    subst hm0
    rw [h2]
    exact end_nil (mk := fun s => .tuple #[s, .int .i64 0]) ⟨fun _ _ _ => rfl, fun _ _ _ h => ⟨h, trivial, trivial⟩⟩ rfl rfl
  · rw [him] at h2 hkr
    rw [h2]
    exact end_mk (k := k) (mk := fun s => .tuple #[s, .int .i64 0]) ⟨fun _ _ _ => rfl, fun _ _ _ h => ⟨h, trivial, trivial⟩⟩ (by omega) (rows_no (f := eY) _) (by rw [hkr]; rfl) rfl rfl
end
end Go.Proofs.YtjfgbdmdnejhdaaDoor
