/-
  Chapter 10 at the top: Regions, by names.
-/
import Derived.Test.YtfbkbkgjmpbmaaaDoorTrG
set_option linter.unusedSimpArgs false
set_option linter.unusedVariables false
namespace Go.Proofs.YtfbkbkgjmpbmaaaDoor
open Go.RowKit Go.Vm
set_option maxRecDepth 1000000
/- boule/defect.bounds · slots 23 · names 0:m 1:region 2:m 3:region 4:above 5:upto · results [4, 5] -/
def ir26_r0 : IC := .reg [⟨some 2, none, false, .box (.t 0)⟩,
  ⟨some 4, none, false, .mv (.k (.int .i64 0))⟩,
  ⟨some 5, none, false, .mv (.k (.int .i64 0))⟩] (some [1, 2])
def ir26_r1 : IC := .reg [⟨some 4, none, false, .mv (.k (.int .i64 (-1)))⟩,
  ⟨some 5, none, false, .mv (.k (.int .i64 1099511627776))⟩] (some [1, 2, 4, 5])
def ir26_r2 : IC := .reg [⟨some 6, none, false, .mv (.t 1)⟩,
  ⟨some 7, none, false, .cmp .gtr (.t 6) (.k (.int .i64 0))⟩] (some [1, 2, 4, 5, 7])
def ir26_r3 : IC := .reg [⟨some 8, none, false, .mv (.t 1)⟩,
  ⟨some 9, none, false, .ar .sub (.t 8) (.k (.int .i64 1))⟩,
  ⟨some 10, none, false, .fad 1 (.t 2)⟩,
  ⟨some 11, none, false, .iada 4 2 (.t 10) (.t 9)⟩,
  ⟨some 12, none, false, .fad 0 (.t 11)⟩,
  ⟨some 13, none, false, .ldc (.t 12)⟩,
  ⟨some 4, none, false, .mv (.t 13)⟩] (some [1, 2, 4, 5])
def ir26_1 : IC := .cond (.t 7) ir26_r3 .skip
def ir26_2 : IC := .seq ir26_r2 ir26_1
def ir26_r4 : IC := .reg [⟨some 14, none, false, .mv (.t 1)⟩,
  ⟨some 15, none, false, .cmp .lss (.t 14) (.k (.int .i64 4))⟩] (some [1, 2, 4, 5, 15])
def ir26_r5 : IC := .reg [⟨some 16, none, false, .mv (.t 1)⟩,
  ⟨some 17, none, false, .fad 1 (.t 2)⟩,
  ⟨some 18, none, false, .iada 4 2 (.t 17) (.t 16)⟩,
  ⟨some 19, none, false, .fad 1 (.t 18)⟩,
  ⟨some 20, none, false, .ldc (.t 19)⟩,
  ⟨some 5, none, false, .mv (.t 20)⟩] (some [4, 5])
def ir26_3 : IC := .cond (.t 15) ir26_r5 .skip
def ir26_4 : IC := .seq ir26_r4 ir26_3
def ir26_r6 : IC := .reg [⟨some 21, none, false, .mv (.t 4)⟩,
  ⟨some 22, none, false, .mv (.t 5)⟩,
  ⟨some 4, none, false, .mv (.t 21)⟩,
  ⟨some 5, none, false, .mv (.t 22)⟩] (some [4, 5])
def ir26_5 : IC := .seq ir26_r6 .ret
def ir26_6 : IC := .seq ir26_4 ir26_5
def ir26_7 : IC := .seq ir26_2 ir26_6
def ir26_8 : IC := .seq ir26_r1 ir26_7
def ir26_9 : IC := .seq ir26_r0 ir26_8
def ir26 : IC := ir26_9
theorem fn26 : FnIs Tryd.prog 26 ir26 23 [.tmp 4, .tmp 5] := ⟨Tryd.f26, Tryd.f26.body.getD .skip, Tryd.func26, by kernel_rfl, by kernel_rfl, by kernel_rfl, by kernel_rfl⟩
/- boule/defect.possible · slots 44 · names 0:m 1:rate 2:gradient 3:region 4:m 5:rate 6:gradient 7:region 9:above 10:upto · results [8] -/
def ir20_r0 : IC := .reg [⟨some 4, none, false, .box (.t 0)⟩,
  ⟨some 5, none, false, .box (.t 1)⟩,
  ⟨some 6, none, false, .box (.t 2)⟩,
  ⟨some 8, none, false, .mv (.k (.bool false))⟩] (some [3, 4, 5, 6])
def ir20_r1 : IC := .reg [⟨some 12, none, false, .lda 9 (.t 4)⟩,
  ⟨some 13, none, false, .mv (.t 3)⟩,
  ⟨some 14, none, false, .call (.f 26) [(.t 12), (.t 13)]⟩,
  ⟨some 11, none, false, .mv (.t 14)⟩,
  ⟨some 15, none, false, .ext (.t 11) 0⟩,
  ⟨some 16, none, false, .ext (.t 11) 1⟩,
  ⟨some 9, none, false, .mv (.t 15)⟩,
  ⟨some 10, none, false, .mv (.t 16)⟩] (some [4, 5, 6, 9, 10])
def ir20_r2 : IC := .reg [⟨some 17, none, false, .mv (.t 9)⟩,
  ⟨some 18, none, false, .mv (.t 10)⟩,
  ⟨some 19, none, false, .cmp .lss (.t 17) (.t 18)⟩,
  ⟨some 20, none, false, .mv (.t 19)⟩,
  ⟨some 21, some (20, true), false, .fad 1 (.t 5)⟩,
  ⟨some 22, some (20, true), false, .ldc (.t 21)⟩,
  ⟨some 23, some (20, true), false, .fad 0 (.t 4)⟩,
  ⟨some 24, some (20, true), false, .ldc (.t 23)⟩,
  ⟨some 25, some (20, true), false, .ar .mul (.t 22) (.t 24)⟩,
  ⟨some 26, some (20, true), false, .mv (.t 9)⟩,
  ⟨some 27, some (20, true), false, .fad 0 (.t 6)⟩,
  ⟨some 28, some (20, true), false, .ldc (.t 27)⟩,
  ⟨some 29, some (20, true), false, .ar .mul (.t 26) (.t 28)⟩,
  ⟨some 30, some (20, true), false, .cmp .gtr (.t 25) (.t 29)⟩,
  ⟨some 31, none, false, .pick (.t 20) (.t 30) (.k (.bool false))⟩,
  ⟨some 32, none, false, .mv (.t 31)⟩,
  ⟨some 33, some (32, true), false, .fad 0 (.t 5)⟩,
  ⟨some 34, some (32, true), false, .ldc (.t 33)⟩,
  ⟨some 35, some (32, true), false, .fad 0 (.t 4)⟩,
  ⟨some 36, some (32, true), false, .ldc (.t 35)⟩,
  ⟨some 37, some (32, true), false, .ar .mul (.t 34) (.t 36)⟩,
  ⟨some 38, some (32, true), false, .mv (.t 10)⟩,
  ⟨some 39, some (32, true), false, .fad 1 (.t 6)⟩,
  ⟨some 40, some (32, true), false, .ldc (.t 39)⟩,
  ⟨some 41, some (32, true), false, .ar .mul (.t 38) (.t 40)⟩,
  ⟨some 42, some (32, true), false, .cmp .leq (.t 37) (.t 41)⟩,
  ⟨some 43, none, false, .pick (.t 32) (.t 42) (.k (.bool false))⟩,
  ⟨some 8, none, false, .mv (.t 43)⟩] (some [8])
def ir20_1 : IC := .seq ir20_r2 .ret
def ir20_2 : IC := .seq ir20_r1 ir20_1
def ir20_3 : IC := .seq ir20_r0 ir20_2
def ir20 : IC := ir20_3
theorem fn20 : FnIs Tryd.prog 20 ir20 44 [.tmp 8] := ⟨Tryd.f20, Tryd.f20.body.getD .skip, Tryd.func20, by kernel_rfl, by kernel_rfl, by kernel_rfl, by kernel_rfl⟩
/- boule/defect.regions · slots 22 · names 0:m 1:rate 2:gradient 3:m 4:rate 5:gradient 6:s 7:k · results [6] -/
def ir14_r0 : IC := .reg [⟨some 3, none, false, .box (.t 0)⟩,
  ⟨some 4, none, false, .box (.t 1)⟩,
  ⟨some 5, none, false, .box (.t 2)⟩,
  ⟨some 6, none, false, .mv (.k (.int .u8 0))⟩] (some [3, 4, 5, 6])
def ir14_r1 : IC := .reg [⟨some 8, none, false, .mv (.k (.int .i64 0))⟩] (some [3, 4, 5, 6, 8])
def ir14_r2 : IC := .reg [⟨some 9, none, false, .cmp .lss (.t 8) (.k (.int .i64 5))⟩] (some [3, 4, 5, 6, 8, 9])
def ir14_1 : IC := .cond (.t 9) .skip (.exit 0)
def ir14_r3 : IC := .reg [⟨some 10, none, false, .mv (.t 8)⟩,
  ⟨some 7, none, false, .mv (.t 10)⟩] (some [3, 4, 5, 6, 7, 8])
def ir14_r4 : IC := .reg [⟨some 11, none, false, .lda 9 (.t 3)⟩,
  ⟨some 12, none, false, .lda 2 (.t 4)⟩,
  ⟨some 13, none, false, .lda 2 (.t 5)⟩,
  ⟨some 14, none, false, .mv (.t 7)⟩,
  ⟨some 15, none, false, .call (.f 20) [(.t 11), (.t 12), (.t 13), (.t 14)]⟩] (some [3, 4, 5, 6, 7, 8, 15])
def ir14_r5 : IC := .reg [⟨some 16, none, false, .mv (.t 6)⟩,
  ⟨some 17, none, false, .mv (.t 7)⟩,
  ⟨some 18, none, false, .shf .shl (.k (.int .u8 1)) (.t 17)⟩,
  ⟨some 19, none, false, .bits .or (.t 16) (.t 18)⟩,
  ⟨some 6, none, false, .mv (.t 19)⟩] (some [3, 4, 5, 6, 8])
def ir14_2 : IC := .cond (.t 15) ir14_r5 .skip
def ir14_3 : IC := .seq ir14_r4 ir14_2
def ir14_4 : IC := .seq ir14_r3 ir14_3
def ir14_5 : IC := .block 1 ir14_4
def ir14_r6 : IC := .reg [⟨some 20, none, false, .ar .add (.t 8) (.k (.int .i64 1))⟩,
  ⟨some 8, none, false, .mv (.t 20)⟩] (some [3, 4, 5, 6, 8])
def ir14_6 : IC := .seq ir14_5 ir14_r6
def ir14_7 : IC := .seq ir14_1 ir14_6
def ir14_8 : IC := .seq ir14_r2 ir14_7
def ir14_9 : IC := .loop ir14_8
def ir14_10 : IC := .block 0 ir14_9
def ir14_11 : IC := .seq ir14_r1 ir14_10
def ir14_r7 : IC := .reg [⟨some 21, none, false, .mv (.t 6)⟩,
  ⟨some 6, none, false, .mv (.t 21)⟩] (some [6])
def ir14_12 : IC := .seq ir14_r7 .ret
def ir14_13 : IC := .seq ir14_11 ir14_12
def ir14_14 : IC := .seq ir14_r0 ir14_13
def ir14 : IC := ir14_14
theorem fn14 : FnIs Tryd.prog 14 ir14 22 [.tmp 6] := ⟨Tryd.f14, Tryd.f14.body.getD .skip, Tryd.func14, by kernel_rfl, by kernel_rfl, by kernel_rfl, by kernel_rfl⟩
/- boule/defect.Regions · slots 25 · names 0:m 1:rate 2:gradient 3:m 4:rate 5:gradient · results [6, 7] -/
def ir4_r0 : IC := .reg [⟨some 3, none, false, .box (.t 0)⟩,
  ⟨some 4, none, false, .box (.t 1)⟩,
  ⟨some 5, none, false, .box (.t 2)⟩,
  ⟨some 6, none, false, .mv (.k (.int .u8 0))⟩,
  ⟨some 7, none, false, .mv (.k (.int .i64 0))⟩] (some [3, 4, 5])
def ir4_r1 : IC := .reg [⟨some 8, none, false, .lda 9 (.t 3)⟩,
  ⟨some 9, none, false, .call (.f 11) [(.t 8)]⟩,
  ⟨some 10, none, false, .cmp .neq (.t 9) (.k (.int .i64 0))⟩,
  ⟨some 11, none, false, .mv (.t 10)⟩,
  ⟨some 12, some (11, false), false, .lda 2 (.t 4)⟩,
  ⟨some 13, some (11, false), false, .call (.f 12) [(.t 12)]⟩,
  ⟨some 14, some (11, false), false, .not (.t 13)⟩,
  ⟨some 15, none, false, .pick (.t 11) (.k (.bool true)) (.t 14)⟩,
  ⟨some 16, none, false, .mv (.t 15)⟩,
  ⟨some 17, some (16, false), false, .lda 2 (.t 5)⟩,
  ⟨some 18, some (16, false), false, .call (.f 13) [(.t 17)]⟩,
  ⟨some 19, some (16, false), false, .not (.t 18)⟩,
  ⟨some 20, none, false, .pick (.t 16) (.k (.bool true)) (.t 19)⟩] (some [3, 4, 5, 20])
def ir4_r2 : IC := .reg [⟨some 6, none, false, .mv (.k (.int .u8 0))⟩,
  ⟨some 7, none, false, .mv (.k (.int .i64 2))⟩] (some [6, 7])
def ir4_1 : IC := .seq ir4_r2 .ret
def ir4_2 : IC := .cond (.t 20) ir4_1 .skip
def ir4_3 : IC := .seq ir4_r1 ir4_2
def ir4_r3 : IC := .reg [⟨some 21, none, false, .lda 9 (.t 3)⟩,
  ⟨some 22, none, false, .lda 2 (.t 4)⟩,
  ⟨some 23, none, false, .lda 2 (.t 5)⟩,
  ⟨some 24, none, false, .call (.f 14) [(.t 21), (.t 22), (.t 23)]⟩,
  ⟨some 6, none, false, .mv (.t 24)⟩,
  ⟨some 7, none, false, .mv (.k (.int .i64 0))⟩] (some [6, 7])
def ir4_4 : IC := .seq ir4_r3 .ret
def ir4_5 : IC := .seq ir4_3 ir4_4
def ir4_6 : IC := .seq ir4_r0 ir4_5
def ir4 : IC := ir4_6
theorem fn4 : FnIs Tryd.prog 4 ir4 25 [.tmp 6, .tmp 7] := ⟨Tryd.f4, Tryd.f4.body.getD .skip, Tryd.func4, by kernel_rfl, by kernel_rfl, by kernel_rfl, by kernel_rfl⟩
section
variable {sc rl rh gl gh : Int} {bs : List Int} {h : AH} {k : Nat}
theorem bounds_c (hl : bs.length = 8) (hk : k < 5) : Fc Tryd.prog 26 [.agg ⟨mL sc bs⟩, .int .i64 k] (Hp 1 [none]) (.tuple #[I6 (lowB bs k), I6 (upB bs k)]) (Hp 1 [none]) := by
  refine Fc.intro0 fn26 (by simp) rfl rfl ?_; simp only [argF]
  refine ITri.seq ?_
  refine ITri.reg pok ?_; simp -implicitDefEqProofs (disch := first | decide | exact of_eq_true (eq_true rfl) | omega | assumption) only [ ↓vcD, vcE, ↓vcG, vcF, evs, evP, evB, intsOf, fillC, Value.cells, pt, Value.oneCell', reduceIte, reduceCtorEq, Nat.reduceEqDiff, Nat.reduceAdd, Nat.reduceMul, Nat.reduceLT, Nat.reduceBEq, Nat.reduceLeDiff, Nat.reduceSub] -- r0
  refine ITri.seq ?_
  refine ITri.reg pok ?_; simp -implicitDefEqProofs (disch := first | decide | exact of_eq_true (eq_true rfl) | omega | assumption) only [ ↓vcD, vcE, ↓vcG, vcF, evs, evP, evB, intsOf, fillC, Value.cells, pt, Value.oneCell', reduceIte, reduceCtorEq, Nat.reduceEqDiff, Nat.reduceAdd, Nat.reduceMul, Nat.reduceLT, Nat.reduceBEq, Nat.reduceLeDiff, Nat.reduceSub] -- r1
  refine ITri.seq ?_
  refine ITri.atF (l2 := [(1, .int .i64 k), (2, pt 1), (4, I6 (lowB bs k)), (5, I6 1099511627776)]) (h2 := Hp 1 [none, some (.cells ⟨mL sc bs, 1, false⟩)]) ?_ ?_
  · refine ITri.seq ?_
    by_cases h0 : k = 0
    · have hl0 : lowB bs k = -1 := if_pos h0
      have h0' : ¬ (k : Int) > 0 := by omega
      rw [hl0]
      refine ITri.reg pok ?_; simp -implicitDefEqProofs (disch := first | decide | exact of_eq_true (eq_true rfl) | omega | assumption) only [h0', decide_false,  ↓vcD, vcE, ↓vcG, vcF, evs, evP, evB, intsOf, fillC, Value.cells, pt, Value.oneCell', reduceIte, reduceCtorEq, Nat.reduceEqDiff, Nat.reduceAdd, Nat.reduceMul, Nat.reduceLT, Nat.reduceBEq, Nat.reduceLeDiff, Nat.reduceSub] -- r2
      refine ITri.cond (v := false) rfl (fun h => by cases h) (fun _ => ?_)
      refine ITri.skip ?_
      exact AtF.mk ⟨rfl, rfl, rfl, rfl, trivial⟩
    · have hl0 : lowB bs k = nb bs (2 * (k - 1)) := if_neg h0
      have h0' : (k : Int) > 0 := by omega
      have hk1 : (k : Int) - 1 = ((k - 1 : Nat) : Int) := by omega
      have hh := m_lo (sc := sc) bs hl (k - 1) (by omega)
      rw [hl0]
      refine ITri.reg pok ?_; simp -implicitDefEqProofs (disch := first | decide | exact of_eq_true (eq_true rfl) | omega | assumption) only [h0', decide_true,  ↓vcD, vcE, ↓vcG, vcF, evs, evP, evB, intsOf, fillC, Value.cells, pt, Value.oneCell', reduceIte, reduceCtorEq, Nat.reduceEqDiff, Nat.reduceAdd, Nat.reduceMul, Nat.reduceLT, Nat.reduceBEq, Nat.reduceLeDiff, Nat.reduceSub] -- r2
      refine ITri.cond (v := true) rfl (fun _ => ?_) (fun h => by cases h)
      refine ITri.reg pok ?_; simp -implicitDefEqProofs (disch := first | decide | exact of_eq_true (eq_true rfl) | omega | assumption) only [hk1, hh,  ↓vcD, vcE, ↓vcG, vcF, evs, evP, evB, intsOf, fillC, Value.cells, pt, Value.oneCell', reduceIte, reduceCtorEq, Nat.reduceEqDiff, Nat.reduceAdd, Nat.reduceMul, Nat.reduceLT, Nat.reduceBEq, Nat.reduceLeDiff, Nat.reduceSub] -- r3
      exact AtF.mk ⟨rfl, rfl, rfl, rfl, trivial⟩
  refine ITri.seq ?_
  refine ITri.atF (l2 := [(4, I6 (lowB bs k)), (5, I6 (upB bs k))]) (h2 := Hp 1 [none, some (.cells ⟨mL sc bs, 1, false⟩)]) ?_ ?_
  · refine ITri.seq ?_
    by_cases h4 : k < 4
    · have h4' : (k : Int) < 4 := by omega
      have hu : upB bs k = nb bs (2 * k + 1) := if_pos h4
      have hh := m_hi (sc := sc) bs hl k h4
      rw [hu]
      refine ITri.reg pok ?_; simp -implicitDefEqProofs (disch := first | decide | exact of_eq_true (eq_true rfl) | omega | assumption) only [h4', decide_true,  ↓vcD, vcE, ↓vcG, vcF, evs, evP, evB, intsOf, fillC, Value.cells, pt, Value.oneCell', reduceIte, reduceCtorEq, Nat.reduceEqDiff, Nat.reduceAdd, Nat.reduceMul, Nat.reduceLT, Nat.reduceBEq, Nat.reduceLeDiff, Nat.reduceSub] -- r4
      refine ITri.cond (v := true) rfl (fun _ => ?_) (fun h => by cases h)
      refine ITri.reg pok ?_; simp -implicitDefEqProofs (disch := first | decide | exact of_eq_true (eq_true rfl) | omega | assumption) only [hh,  ↓vcD, vcE, ↓vcG, vcF, evs, evP, evB, intsOf, fillC, Value.cells, pt, Value.oneCell', reduceIte, reduceCtorEq, Nat.reduceEqDiff, Nat.reduceAdd, Nat.reduceMul, Nat.reduceLT, Nat.reduceBEq, Nat.reduceLeDiff, Nat.reduceSub] -- r5
      exact AtF.mk ⟨rfl, rfl, trivial⟩
    · have h4' : ¬ (k : Int) < 4 := by omega
      have hu : upB bs k = 1099511627776 := if_neg h4
      rw [hu]
      refine ITri.reg pok ?_; simp -implicitDefEqProofs (disch := first | decide | exact of_eq_true (eq_true rfl) | omega | assumption) only [h4', decide_false,  ↓vcD, vcE, ↓vcG, vcF, evs, evP, evB, intsOf, fillC, Value.cells, pt, Value.oneCell', reduceIte, reduceCtorEq, Nat.reduceEqDiff, Nat.reduceAdd, Nat.reduceMul, Nat.reduceLT, Nat.reduceBEq, Nat.reduceLeDiff, Nat.reduceSub] -- r4
      refine ITri.cond (v := false) rfl (fun h => by cases h) (fun _ => ?_)
      refine ITri.skip ?_
      exact AtF.mk ⟨rfl, rfl, trivial⟩
  refine ITri.seq ?_
  refine ITri.reg pok ?_; simp -implicitDefEqProofs (disch := first | decide | exact of_eq_true (eq_true rfl) | omega | assumption) only [ ↓vcD, vcE, ↓vcG, vcF, evs, evP, evB, intsOf, fillC, Value.cells, pt, Value.oneCell', reduceIte, reduceCtorEq, Nat.reduceEqDiff, Nat.reduceAdd, Nat.reduceMul, Nat.reduceLT, Nat.reduceBEq, Nat.reduceLeDiff, Nat.reduceSub] -- r6
  refine ITri.ret ?_; exact EndR.plain (by simp) (by rfl) (by rfl) (by rfl)
theorem mL_no : noAddrL (mL sc bs) = true := by
  show noAddrL (bs.map I6) = true
  induction bs with
  | nil => rfl
  | cons a r ih => exact ih
theorem noA1 {a : Value} (ha : noAddr a = true) : noAddrL [.agg ⟨mL sc bs⟩, a] = true := by
  simp [noAddrL, noAddr, noAddrA, ha, mL_no]
theorem bounds_f (hl : bs.length = 8) (hk : k < 5) (h0 : h.sees 0 = true) : Fc Tryd.prog 26 [.agg ⟨mL sc bs⟩, .int .i64 k] h (.tuple #[I6 (lowB bs k), I6 (upB bs k)]) h := Fc.lift0 (bounds_c hl hk) (noA1 rfl) rfl h0
theorem poss_c (hl : bs.length = 8) (hk : k < 5) (M : okM sc bs) (P : okP rl rh gl gh) : Fc Tryd.prog 20 [.agg ⟨mL sc bs⟩, .agg #[I6 rl, I6 rh], .agg #[I6 gl, I6 gh], .int .i64 k] (Hp 1 [none]) (.bool (decide (poss sc bs rl rh gl gh k))) (Hp 1 [none]) := by
  refine Fc.intro0 fn20 (by simp) rfl rfl ?_; simp only [argF]
  obtain ⟨t1, t2⟩ := tk_m (sc := sc) bs hl
  have m0 := @m_0 sc bs
  have hlo := low_bd M hk
  have hup := up_bd M hk
  have hs1 := M.s1
  have hs2 := M.s2
  obtain ⟨p1, p2, p3, p4, p5, p6⟩ := P
  have x1 := mul_bd (a := rh) (b := sc) (by omega) p3 (by omega) hs2
  have x2 := mul_bd (a := rl) (b := sc) p1 (show rl ≤ 1000000 by omega) (by omega) hs2
  have x3 := mul_lo hlo.1 hlo.2 p4 (show gl ≤ 1000000 by omega)
  have x4 := mul_bd hup.1 hup.2 (show 0 ≤ gh by omega) p6
  have y1 : inR .i64 (rh * sc) := by rw [inR_i64]; omega
  have y2 : inR .i64 (rl * sc) := by rw [inR_i64]; omega
  have y3 : inR .i64 (lowB bs k * gl) := by rw [inR_i64]; omega
  have y4 : inR .i64 (upB bs k * gh) := by rw [inR_i64]; omega
  refine ITri.seq ?_
  refine ITri.reg pok ?_; simp -implicitDefEqProofs (disch := first | decide | exact of_eq_true (eq_true rfl) | omega | assumption) only [ ↓vcD, vcE, ↓vcG, vcF, evs, evP, evB, intsOf, fillC, Value.cells, pt, Value.oneCell', reduceIte, reduceCtorEq, Nat.reduceEqDiff, Nat.reduceAdd, Nat.reduceMul, Nat.reduceLT, Nat.reduceBEq, Nat.reduceLeDiff, Nat.reduceSub] -- r0
  refine ITri.seq ?_
  refine ITri.reg pok ?_; simp -implicitDefEqProofs (disch := first | decide | exact of_eq_true (eq_true rfl) | omega | assumption) only [t1,  ↓vcD, vcE, ↓vcG, vcF, evs, evP, evB, intsOf, fillC, Value.cells, pt, Value.oneCell', reduceIte, reduceCtorEq, Nat.reduceEqDiff, Nat.reduceAdd, Nat.reduceMul, Nat.reduceLT, Nat.reduceBEq, Nat.reduceLeDiff, Nat.reduceSub] -- r1
  refine ⟨_, _, bounds_f hl hk (sees0 rfl (of_decide_eq_true rfl)), ?_⟩
  try simp -implicitDefEqProofs (disch := first | decide | exact of_eq_true (eq_true rfl) | omega | assumption) only [ ↓vcD, vcE, ↓vcG, vcF, evs, evP, evB, intsOf, fillC, Value.cells, pt, Value.oneCell', reduceIte, reduceCtorEq, Nat.reduceEqDiff, Nat.reduceAdd, Nat.reduceMul, Nat.reduceLT, Nat.reduceBEq, Nat.reduceLeDiff, Nat.reduceSub]
  refine ITri.seq ?_
  by_cases c1 : lowB bs k < upB bs k
  · by_cases c2 : rh * sc > lowB bs k * gl
    · by_cases c3 : rl * sc ≤ upB bs k * gh
      · rw [decide_eq_true (show poss sc bs rl rh gl gh k from ⟨c1, c2, c3⟩)]
        refine ITri.reg pok ?_; simp -implicitDefEqProofs (disch := first | decide | exact of_eq_true (eq_true rfl) | omega | assumption) only [m0, y1, y2, y3, y4, c1, c2, c3, decide_true,  ↓vcD, vcE, ↓vcG, vcF, evs, evP, evB, intsOf, fillC, Value.cells, pt, Value.oneCell', reduceIte, reduceCtorEq, Nat.reduceEqDiff, Nat.reduceAdd, Nat.reduceMul, Nat.reduceLT, Nat.reduceBEq, Nat.reduceLeDiff, Nat.reduceSub] -- r2
        refine ITri.ret ?_; exact EndR.plain (by simp) (by rfl) (by rfl) (by rfl)
      · rw [decide_eq_false (show ¬ poss sc bs rl rh gl gh k from fun h => c3 h.2.2)]
        refine ITri.reg pok ?_; simp -implicitDefEqProofs (disch := first | decide | exact of_eq_true (eq_true rfl) | omega | assumption) only [m0, y1, y2, y3, y4, c1, c2, c3, decide_true, decide_false,  ↓vcD, vcE, ↓vcG, vcF, evs, evP, evB, intsOf, fillC, Value.cells, pt, Value.oneCell', reduceIte, reduceCtorEq, Nat.reduceEqDiff, Nat.reduceAdd, Nat.reduceMul, Nat.reduceLT, Nat.reduceBEq, Nat.reduceLeDiff, Nat.reduceSub] -- r2
        refine ITri.ret ?_; exact EndR.plain (by simp) (by rfl) (by rfl) (by rfl)
    · rw [decide_eq_false (show ¬ poss sc bs rl rh gl gh k from fun h => c2 h.2.1)]
      refine ITri.reg pok ?_; simp -implicitDefEqProofs (disch := first | decide | exact of_eq_true (eq_true rfl) | omega | assumption) only [m0, y1, y2, y3, y4, c1, c2, decide_true, decide_false,  ↓vcD, vcE, ↓vcG, vcF, evs, evP, evB, intsOf, fillC, Value.cells, pt, Value.oneCell', reduceIte, reduceCtorEq, Nat.reduceEqDiff, Nat.reduceAdd, Nat.reduceMul, Nat.reduceLT, Nat.reduceBEq, Nat.reduceLeDiff, Nat.reduceSub] -- r2
      refine ITri.ret ?_; exact EndR.plain (by simp) (by rfl) (by rfl) (by rfl)
  · rw [decide_eq_false (show ¬ poss sc bs rl rh gl gh k from fun h => c1 h.1)]
    refine ITri.reg pok ?_; simp -implicitDefEqProofs (disch := first | decide | exact of_eq_true (eq_true rfl) | omega | assumption) only [m0, c1, decide_false,  ↓vcD, vcE, ↓vcG, vcF, evs, evP, evB, intsOf, fillC, Value.cells, pt, Value.oneCell', reduceIte, reduceCtorEq, Nat.reduceEqDiff, Nat.reduceAdd, Nat.reduceMul, Nat.reduceLT, Nat.reduceBEq, Nat.reduceLeDiff, Nat.reduceSub] -- r2
    refine ITri.ret ?_; exact EndR.plain (by simp) (by rfl) (by rfl) (by rfl)
theorem poss_f (hl : bs.length = 8) (hk : k < 5) (M : okM sc bs) (P : okP rl rh gl gh) (h0 : h.sees 0 = true) : Fc Tryd.prog 20 [.agg ⟨mL sc bs⟩, .agg #[I6 rl, I6 rh], .agg #[I6 gl, I6 gh], .int .i64 k] h (.bool (decide (poss sc bs rl rh gl gh k))) h := Fc.lift0 (poss_c hl hk M P) (by simp [noAddrL, noAddr, noAddrA, mL_no]) rfl h0
theorem t_or : ((List.range 32).all fun n => (List.range 5).all fun k => decide (btI .or .u8 (n : Int) (shI .shl .u8 1 (k : Int)) = ((n ||| 2 ^ k : Nat) : Int))) = true := by kernel_rfl
theorem or_eq {n : Nat} (hn : n < 32) (hk : k < 5) : btI .or .u8 (n : Int) (shI .shl .u8 1 (k : Int)) = ((n ||| 2 ^ k : Nat) : Int) := of_decide_eq_true (List.all_eq_true.1 (List.all_eq_true.1 t_or n (List.mem_range.2 hn)) k (List.mem_range.2 hk))
abbrev posF (sc : Int) (bs : List Int) (rl rh gl gh : Int) : Nat → Bool := fun k => decide (poss sc bs rl rh gl gh k)
theorem regs_c (hl : bs.length = 8) (M : okM sc bs) (P : okP rl rh gl gh) : Fc Tryd.prog 14 [.agg ⟨mL sc bs⟩, .agg #[I6 rl, I6 rh], .agg #[I6 gl, I6 gh]] (Hp 1 [none]) (u8 (setN (posF sc bs rl rh gl gh) 5)) (Hp 1 [none]) := by
  refine Fc.intro0 fn14 (by simp) rfl rfl ?_; simp only [argF]
  obtain ⟨t1, t2⟩ := tk_m (sc := sc) bs hl
  refine ITri.seq ?_
  refine ITri.reg pok ?_; simp -implicitDefEqProofs (disch := first | decide | exact of_eq_true (eq_true rfl) | omega | assumption) only [ ↓vcD, vcE, ↓vcG, vcF, evs, evP, evB, intsOf, fillC, Value.cells, pt, Value.oneCell', reduceIte, reduceCtorEq, Nat.reduceEqDiff, Nat.reduceAdd, Nat.reduceMul, Nat.reduceLT, Nat.reduceBEq, Nat.reduceLeDiff, Nat.reduceSub] -- r0
  refine ITri.seq ?_
  refine ITri.seq ?_
  refine ITri.reg pok ?_; simp -implicitDefEqProofs (disch := first | decide | exact of_eq_true (eq_true rfl) | omega | assumption) only [ ↓vcD, vcE, ↓vcG, vcF, evs, evP, evB, intsOf, fillC, Value.cells, pt, Value.oneCell', reduceIte, reduceCtorEq, Nat.reduceEqDiff, Nat.reduceAdd, Nat.reduceMul, Nat.reduceLT, Nat.reduceBEq, Nat.reduceLeDiff, Nat.reduceSub] -- r1
  refine ITri.block ?_ -- 0
  refine ITri.loop (fun k : Nat => [(3, pt 1), (4, pt 2), (5, pt 3), (6, u8 (setN (posF sc bs rl rh gl gh) k)), (8, .int .i64 k)]) (fun _ => []) (fun k => Hp 1 [none, some (.cells ⟨mL sc bs, 1, false⟩), some (.cells ⟨[I6 rl, I6 rh], 1, false⟩), some (.cells ⟨[I6 gl, I6 gh], 1, false⟩)]) (fun k => k ≤ 5) (fun k => 5 - k) 0 (by omega) (Wk.sub ⟨rfl, rfl, rfl, rfl, rfl, trivial⟩) fun k hk => ?_
  refine ITri.seq ?_
  refine ITri.reg pok ?_; simp -implicitDefEqProofs (disch := first | decide | exact of_eq_true (eq_true rfl) | omega | assumption) only [ ↓vcD, vcE, ↓vcG, vcF, evs, evP, evB, intsOf, fillC, Value.cells, pt, Value.oneCell', reduceIte, reduceCtorEq, Nat.reduceEqDiff, Nat.reduceAdd, Nat.reduceMul, Nat.reduceLT, Nat.reduceBEq, Nat.reduceLeDiff, Nat.reduceSub] -- r2
  refine ITri.seq ?_
  refine ITri.condD (by rfl) (fun h2 => ?_) (fun h2 => ?_) -- %9
  · have hk5 : k < 5 := by omega
    have hk1 : (k : Int) + 1 = ((k + 1 : Nat) : Int) := by omega
    have hn : setN (posF sc bs rl rh gl gh) k < 32 := Nat.lt_of_lt_of_le (setN_lt _ k) (by
      have : 2 ^ k ≤ 2 ^ 5 := Nat.pow_le_pow_right (by decide) hk
      omega)
    have hor := or_eq hn hk5
    refine ITri.skip ?_; simp only [SeqQ_normal, BlkQ_normal]
    refine ITri.seq ?_
    refine ITri.block ?_ -- 1
    refine ITri.seq ?_
    refine ITri.reg pok ?_; simp -implicitDefEqProofs (disch := first | decide | exact of_eq_true (eq_true rfl) | omega | assumption) only [ ↓vcD, vcE, ↓vcG, vcF, evs, evP, evB, intsOf, fillC, Value.cells, pt, Value.oneCell', reduceIte, reduceCtorEq, Nat.reduceEqDiff, Nat.reduceAdd, Nat.reduceMul, Nat.reduceLT, Nat.reduceBEq, Nat.reduceLeDiff, Nat.reduceSub] -- r3
    refine ITri.seq ?_
    refine ITri.reg pok ?_; simp -implicitDefEqProofs (disch := first | decide | exact of_eq_true (eq_true rfl) | omega | assumption) only [t1,  ↓vcD, vcE, ↓vcG, vcF, evs, evP, evB, intsOf, fillC, Value.cells, pt, Value.oneCell', reduceIte, reduceCtorEq, Nat.reduceEqDiff, Nat.reduceAdd, Nat.reduceMul, Nat.reduceLT, Nat.reduceBEq, Nat.reduceLeDiff, Nat.reduceSub] -- r4
    refine ⟨_, _, poss_f hl hk5 M P (sees0 rfl (of_decide_eq_true rfl)), ?_⟩
    by_cases hp : poss sc bs rl rh gl gh k
    · have hs : setN (posF sc bs rl rh gl gh) (k + 1) = setN (posF sc bs rl rh gl gh) k ||| 2 ^ k := if_pos (decide_eq_true hp)
      rw [decide_eq_true hp]
      try simp -implicitDefEqProofs (disch := first | decide | exact of_eq_true (eq_true rfl) | omega | assumption) only [ ↓vcD, vcE, ↓vcG, vcF, evs, evP, evB, intsOf, fillC, Value.cells, pt, Value.oneCell', reduceIte, reduceCtorEq, Nat.reduceEqDiff, Nat.reduceAdd, Nat.reduceMul, Nat.reduceLT, Nat.reduceBEq, Nat.reduceLeDiff, Nat.reduceSub]
      refine ITri.cond (v := true) rfl (fun _ => ?_) (fun h => by cases h)
      unfold u8
      refine ITri.reg pok ?_; simp -implicitDefEqProofs (disch := first | decide | exact of_eq_true (eq_true rfl) | omega | assumption) only [hor,  ↓vcD, vcE, ↓vcG, vcF, evs, evP, evB, intsOf, fillC, Value.cells, pt, Value.oneCell', reduceIte, reduceCtorEq, Nat.reduceEqDiff, Nat.reduceAdd, Nat.reduceMul, Nat.reduceLT, Nat.reduceBEq, Nat.reduceLeDiff, Nat.reduceSub] -- r5
      refine ITri.reg pok ?_; simp -implicitDefEqProofs (disch := first | decide | exact of_eq_true (eq_true rfl) | omega | assumption) only [hk1,  ↓vcD, vcE, ↓vcG, vcF, evs, evP, evB, intsOf, fillC, Value.cells, pt, Value.oneCell', reduceIte, reduceCtorEq, Nat.reduceEqDiff, Nat.reduceAdd, Nat.reduceMul, Nat.reduceLT, Nat.reduceBEq, Nat.reduceLeDiff, Nat.reduceSub] -- r6
      exact LoopQ.next (k + 1) (by omega) (by omega) (Wk.sub ⟨rfl, rfl, rfl, by rw [hs]; rfl, rfl, trivial⟩)
    · have hs : setN (posF sc bs rl rh gl gh) (k + 1) = setN (posF sc bs rl rh gl gh) k := if_neg (by show ¬ decide (poss sc bs rl rh gl gh k) = true; rw [decide_eq_false hp]; decide)
      rw [decide_eq_false hp]
      try simp -implicitDefEqProofs (disch := first | decide | exact of_eq_true (eq_true rfl) | omega | assumption) only [ ↓vcD, vcE, ↓vcG, vcF, evs, evP, evB, intsOf, fillC, Value.cells, pt, Value.oneCell', reduceIte, reduceCtorEq, Nat.reduceEqDiff, Nat.reduceAdd, Nat.reduceMul, Nat.reduceLT, Nat.reduceBEq, Nat.reduceLeDiff, Nat.reduceSub]
      refine ITri.cond (v := false) rfl (fun h => by cases h) (fun _ => ?_)
      refine ITri.skip ?_
      try simp -implicitDefEqProofs (disch := first | decide | exact of_eq_true (eq_true rfl) | omega | assumption) only [ ↓vcD, vcE, ↓vcG, vcF, evs, evP, evB, intsOf, fillC, Value.cells, pt, Value.oneCell', reduceIte, reduceCtorEq, Nat.reduceEqDiff, Nat.reduceAdd, Nat.reduceMul, Nat.reduceLT, Nat.reduceBEq, Nat.reduceLeDiff, Nat.reduceSub]
      refine ITri.reg pok ?_; simp -implicitDefEqProofs (disch := first | decide | exact of_eq_true (eq_true rfl) | omega | assumption) only [hk1,  ↓vcD, vcE, ↓vcG, vcF, evs, evP, evB, intsOf, fillC, Value.cells, pt, Value.oneCell', reduceIte, reduceCtorEq, Nat.reduceEqDiff, Nat.reduceAdd, Nat.reduceMul, Nat.reduceLT, Nat.reduceBEq, Nat.reduceLeDiff, Nat.reduceSub] -- r6
      exact LoopQ.next (k + 1) (by omega) (by omega) (Wk.sub ⟨rfl, rfl, rfl, by rw [hs]; rfl, rfl, trivial⟩)
  refine ITri.exit ?_; try simp -implicitDefEqProofs (disch := first | decide | exact of_eq_true (eq_true rfl) | omega | assumption) only [ ↓vcD, vcE, ↓vcG, vcF, evs, evP, evB, intsOf, fillC, Value.cells, pt, Value.oneCell', reduceIte, reduceCtorEq, Nat.reduceEqDiff, Nat.reduceAdd, Nat.reduceMul, Nat.reduceLT, Nat.reduceBEq, Nat.reduceLeDiff, Nat.reduceSub] -- exit 0
  obtain rfl : k = 5 := by omega
  refine ITri.seq ?_
  refine ITri.reg pok ?_; simp -implicitDefEqProofs (disch := first | decide | exact of_eq_true (eq_true rfl) | omega | assumption) only [ ↓vcD, vcE, ↓vcG, vcF, evs, evP, evB, intsOf, fillC, Value.cells, pt, Value.oneCell', reduceIte, reduceCtorEq, Nat.reduceEqDiff, Nat.reduceAdd, Nat.reduceMul, Nat.reduceLT, Nat.reduceBEq, Nat.reduceLeDiff, Nat.reduceSub] -- r7
  refine ITri.ret ?_; exact EndR.plain (by simp) (by rfl) (by rfl) (by rfl)
theorem regs_f (hl : bs.length = 8) (M : okM sc bs) (P : okP rl rh gl gh) (h0 : h.sees 0 = true) : Fc Tryd.prog 14 [.agg ⟨mL sc bs⟩, .agg #[I6 rl, I6 rh], .agg #[I6 gl, I6 gh]] h (u8 (setN (posF sc bs rl rh gl gh) 5)) h := Fc.lift0 (regs_c hl M P) (by simp [noAddrL, noAddr, noAddrA, mL_no]) rfl h0
theorem model_f {e : Int} (hl : bs.length = 8) (he : (okM sc bs ∧ e = 0) ∨ (¬ okM sc bs ∧ e = 2)) (h0 : h.sees 0 = true) : Fc Tryd.prog 11 [.agg ⟨mL sc bs⟩] h (.int .i64 e) h := Fc.lift0 (model_c hl he) (by simp [noAddrL, noAddr, noAddrA, mL_no]) rfl h0
theorem rgB_t {lo hi le mo : Int} : rgB lo hi le mo = true ↔ le ≤ lo ∧ lo ≤ hi ∧ hi ≤ mo := by
  unfold rgB
  simp only [Bool.and_eq_true, decide_eq_true_eq]
theorem reg_c {v : Nat} {e : Int} (hl : bs.length = 8) (hv : (okM sc bs ∧ okP rl rh gl gh ∧ v = setN (posF sc bs rl rh gl gh) 5 ∧ e = 0) ∨ (¬ (okM sc bs ∧ okP rl rh gl gh) ∧ v = 0 ∧ e = 2)) : Fc Tryd.prog 4 [.agg ⟨mL sc bs⟩, .agg #[I6 rl, I6 rh], .agg #[I6 gl, I6 gh]] (Hp 1 [none]) (.tuple #[u8 v, .int .i64 e]) (Hp 1 [none]) := by
  refine Fc.intro0 fn4 (by simp) rfl rfl ?_; simp only [argF]
  obtain ⟨t1, t2⟩ := tk_m (sc := sc) bs hl
  have bad : ¬ (okM sc bs ∧ okP rl rh gl gh) → v = 0 ∧ e = 2 := fun h => by
    rcases hv with ⟨h1, h2, _⟩ | ⟨_, h2⟩
    · exact absurd ⟨h1, h2⟩ h
    · exact h2
  refine ITri.seq ?_
  refine ITri.reg pok ?_; simp -implicitDefEqProofs (disch := first | decide | exact of_eq_true (eq_true rfl) | omega | assumption) only [ ↓vcD, vcE, ↓vcG, vcF, evs, evP, evB, intsOf, fillC, Value.cells, pt, Value.oneCell', reduceIte, reduceCtorEq, Nat.reduceEqDiff, Nat.reduceAdd, Nat.reduceMul, Nat.reduceLT, Nat.reduceBEq, Nat.reduceLeDiff, Nat.reduceSub] -- r0
  refine ITri.seq ?_
  refine ITri.seq ?_
  by_cases hM : okM sc bs
  · refine ITri.reg pok ?_; simp -implicitDefEqProofs (disch := first | decide | exact of_eq_true (eq_true rfl) | omega | assumption) only [t1,  ↓vcD, vcE, ↓vcG, vcF, evs, evP, evB, intsOf, fillC, Value.cells, pt, Value.oneCell', reduceIte, reduceCtorEq, Nat.reduceEqDiff, Nat.reduceAdd, Nat.reduceMul, Nat.reduceLT, Nat.reduceBEq, Nat.reduceLeDiff, Nat.reduceSub] -- r1
    refine ⟨_, _, model_f hl (.inl ⟨hM, rfl⟩) (sees0 rfl (of_decide_eq_true rfl)), ?_⟩
    simp -implicitDefEqProofs (disch := first | decide | exact of_eq_true (eq_true rfl) | omega | assumption) only [decide_true, Bool.not_true,  ↓vcD, vcE, ↓vcG, vcF, evs, evP, evB, intsOf, fillC, Value.cells, pt, Value.oneCell', reduceIte, reduceCtorEq, Nat.reduceEqDiff, Nat.reduceAdd, Nat.reduceMul, Nat.reduceLT, Nat.reduceBEq, Nat.reduceLeDiff, Nat.reduceSub]
    refine ⟨_, _, rate_f (sees0 rfl (of_decide_eq_true rfl)), ?_⟩
    cases hr : rgB rl rh 0 1000000 with
    | false =>
      obtain ⟨rfl, rfl⟩ := bad fun h => by
        have := rgB_t.2 ⟨h.2.r1, h.2.r2, h.2.r3⟩
        rw [this] at hr
        cases hr
      simp -implicitDefEqProofs (disch := first | decide | exact of_eq_true (eq_true rfl) | omega | assumption) only [Bool.not_false,  ↓vcD, vcE, ↓vcG, vcF, evs, evP, evB, intsOf, fillC, Value.cells, pt, Value.oneCell', reduceIte, reduceCtorEq, Nat.reduceEqDiff, Nat.reduceAdd, Nat.reduceMul, Nat.reduceLT, Nat.reduceBEq, Nat.reduceLeDiff, Nat.reduceSub]
      refine ITri.cond (v := true) rfl (fun _ => ?_) (fun h => by cases h)
      refine ITri.seq ?_
      refine ITri.reg pok ?_; simp -implicitDefEqProofs (disch := first | decide | exact of_eq_true (eq_true rfl) | omega | assumption) only [ ↓vcD, vcE, ↓vcG, vcF, evs, evP, evB, intsOf, fillC, Value.cells, pt, Value.oneCell', reduceIte, reduceCtorEq, Nat.reduceEqDiff, Nat.reduceAdd, Nat.reduceMul, Nat.reduceLT, Nat.reduceBEq, Nat.reduceLeDiff, Nat.reduceSub] -- r2
      refine ITri.ret ?_; exact EndR.plain (by simp) (by rfl) (by rfl) (by rfl)
    | true =>
      obtain ⟨r1, r2, r3⟩ := rgB_t.1 hr
      simp -implicitDefEqProofs (disch := first | decide | exact of_eq_true (eq_true rfl) | omega | assumption) only [Bool.not_true,  ↓vcD, vcE, ↓vcG, vcF, evs, evP, evB, intsOf, fillC, Value.cells, pt, Value.oneCell', reduceIte, reduceCtorEq, Nat.reduceEqDiff, Nat.reduceAdd, Nat.reduceMul, Nat.reduceLT, Nat.reduceBEq, Nat.reduceLeDiff, Nat.reduceSub]
      refine ⟨_, _, grad_f (sees0 rfl (of_decide_eq_true rfl)), ?_⟩
      cases hg : rgB gl gh 1 1000000 with
      | false =>
        obtain ⟨rfl, rfl⟩ := bad fun h => by
          have := rgB_t.2 ⟨h.2.g1, h.2.g2, h.2.g3⟩
          rw [this] at hg
          cases hg
        simp -implicitDefEqProofs (disch := first | decide | exact of_eq_true (eq_true rfl) | omega | assumption) only [Bool.not_false,  ↓vcD, vcE, ↓vcG, vcF, evs, evP, evB, intsOf, fillC, Value.cells, pt, Value.oneCell', reduceIte, reduceCtorEq, Nat.reduceEqDiff, Nat.reduceAdd, Nat.reduceMul, Nat.reduceLT, Nat.reduceBEq, Nat.reduceLeDiff, Nat.reduceSub]
        refine ITri.cond (v := true) rfl (fun _ => ?_) (fun h => by cases h)
        refine ITri.seq ?_
        refine ITri.reg pok ?_; simp -implicitDefEqProofs (disch := first | decide | exact of_eq_true (eq_true rfl) | omega | assumption) only [ ↓vcD, vcE, ↓vcG, vcF, evs, evP, evB, intsOf, fillC, Value.cells, pt, Value.oneCell', reduceIte, reduceCtorEq, Nat.reduceEqDiff, Nat.reduceAdd, Nat.reduceMul, Nat.reduceLT, Nat.reduceBEq, Nat.reduceLeDiff, Nat.reduceSub] -- r2
        refine ITri.ret ?_; exact EndR.plain (by simp) (by rfl) (by rfl) (by rfl)
      | true =>
        obtain ⟨g1, g2, g3⟩ := rgB_t.1 hg
        have P : okP rl rh gl gh := ⟨r1, r2, r3, g1, g2, g3⟩
        obtain ⟨rfl, rfl⟩ : v = setN (posF sc bs rl rh gl gh) 5 ∧ e = 0 := by
          rcases hv with ⟨_, _, h⟩ | ⟨h, _⟩
          · exact h
          · exact absurd ⟨hM, P⟩ h
        simp -implicitDefEqProofs (disch := first | decide | exact of_eq_true (eq_true rfl) | omega | assumption) only [Bool.not_true,  ↓vcD, vcE, ↓vcG, vcF, evs, evP, evB, intsOf, fillC, Value.cells, pt, Value.oneCell', reduceIte, reduceCtorEq, Nat.reduceEqDiff, Nat.reduceAdd, Nat.reduceMul, Nat.reduceLT, Nat.reduceBEq, Nat.reduceLeDiff, Nat.reduceSub]
        refine ITri.cond (v := false) rfl (fun h => by cases h) (fun _ => ?_); refine ITri.skip ?_; simp only [SeqQ_normal, BlkQ_normal]
        refine ITri.seq ?_
        refine ITri.reg pok ?_; simp -implicitDefEqProofs (disch := first | decide | exact of_eq_true (eq_true rfl) | omega | assumption) only [t1,  ↓vcD, vcE, ↓vcG, vcF, evs, evP, evB, intsOf, fillC, Value.cells, pt, Value.oneCell', reduceIte, reduceCtorEq, Nat.reduceEqDiff, Nat.reduceAdd, Nat.reduceMul, Nat.reduceLT, Nat.reduceBEq, Nat.reduceLeDiff, Nat.reduceSub] -- r3
        refine ⟨_, _, regs_f hl hM P (sees0 rfl (of_decide_eq_true rfl)), ?_⟩
        try simp -implicitDefEqProofs (disch := first | decide | exact of_eq_true (eq_true rfl) | omega | assumption) only [ ↓vcD, vcE, ↓vcG, vcF, evs, evP, evB, intsOf, fillC, Value.cells, pt, Value.oneCell', reduceIte, reduceCtorEq, Nat.reduceEqDiff, Nat.reduceAdd, Nat.reduceMul, Nat.reduceLT, Nat.reduceBEq, Nat.reduceLeDiff, Nat.reduceSub]
        refine ITri.ret ?_; exact EndR.plain (by simp) (by rfl) (by rfl) (by rfl)
  · obtain ⟨rfl, rfl⟩ := bad fun h => hM h.1
    have h20 : ¬ (2 : Int) = 0 := by decide
    refine ITri.reg pok ?_; simp -implicitDefEqProofs (disch := first | decide | exact of_eq_true (eq_true rfl) | omega | assumption) only [t1,  ↓vcD, vcE, ↓vcG, vcF, evs, evP, evB, intsOf, fillC, Value.cells, pt, Value.oneCell', reduceIte, reduceCtorEq, Nat.reduceEqDiff, Nat.reduceAdd, Nat.reduceMul, Nat.reduceLT, Nat.reduceBEq, Nat.reduceLeDiff, Nat.reduceSub] -- r1
    refine ⟨_, _, model_f hl (.inr ⟨hM, rfl⟩) (sees0 rfl (of_decide_eq_true rfl)), ?_⟩
    simp -implicitDefEqProofs (disch := first | decide | exact of_eq_true (eq_true rfl) | omega | assumption) only [h20, decide_false, Bool.not_false,  ↓vcD, vcE, ↓vcG, vcF, evs, evP, evB, intsOf, fillC, Value.cells, pt, Value.oneCell', reduceIte, reduceCtorEq, Nat.reduceEqDiff, Nat.reduceAdd, Nat.reduceMul, Nat.reduceLT, Nat.reduceBEq, Nat.reduceLeDiff, Nat.reduceSub]
    refine ITri.cond (v := true) rfl (fun _ => ?_) (fun h => by cases h)
    refine ITri.seq ?_
    refine ITri.reg pok ?_; simp -implicitDefEqProofs (disch := first | decide | exact of_eq_true (eq_true rfl) | omega | assumption) only [ ↓vcD, vcE, ↓vcG, vcF, evs, evP, evB, intsOf, fillC, Value.cells, pt, Value.oneCell', reduceIte, reduceCtorEq, Nat.reduceEqDiff, Nat.reduceAdd, Nat.reduceMul, Nat.reduceLT, Nat.reduceBEq, Nat.reduceLeDiff, Nat.reduceSub] -- r2
    refine ITri.ret ?_; exact EndR.plain (by simp) (by rfl) (by rfl) (by rfl)
theorem reg_f {v : Nat} {e : Int} (hl : bs.length = 8) (hv : (okM sc bs ∧ okP rl rh gl gh ∧ v = setN (posF sc bs rl rh gl gh) 5 ∧ e = 0) ∨ (¬ (okM sc bs ∧ okP rl rh gl gh) ∧ v = 0 ∧ e = 2)) (h0 : h.sees 0 = true) : Fc Tryd.prog 4 [.agg ⟨mL sc bs⟩, .agg #[I6 rl, I6 rh], .agg #[I6 gl, I6 gh]] h (.tuple #[u8 v, .int .i64 e]) h := Fc.lift0 (reg_c hl hv) (by simp [noAddrL, noAddr, noAddrA, mL_no]) rfl h0
end
end Go.Proofs.YtfbkbkgjmpbmaaaDoor
