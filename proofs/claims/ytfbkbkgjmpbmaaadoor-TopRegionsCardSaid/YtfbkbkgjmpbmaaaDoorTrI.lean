/-
  Chapter 10 at the top: the law TopRegions.
-/
import Derived.Test.YtfbkbkgjmpbmaaaDoorTrH
set_option linter.unusedSimpArgs false
set_option linter.unusedVariables false
namespace Go.Proofs.YtfbkbkgjmpbmaaaDoor
open Go.RowKit Go.Vm
set_option maxRecDepth 1000000
theorem t_w31 : ((List.range 256).all fun n => decide (btI .and .u8 (n : Int) 31 = ((n &&& 31 : Nat) : Int)) && decide (n &&& 31 < 32)) = true := by kernel_rfl
theorem w31 {n : Nat} (hn : n < 256) : btI .and .u8 (n : Int) 31 = ((n &&& 31 : Nat) : Int) ∧ n &&& 31 < 32 := by
  have h := List.all_eq_true.1 t_w31 n (List.mem_range.2 hn)
  rw [Bool.and_eq_true] at h
  exact ⟨of_decide_eq_true h.1, of_decide_eq_true h.2⟩
/- boule/bouletop.TopRegions · slots 104 · names 0:m 1:x 2:wanted 3:m 4:x 5:wanted 7:set 8:e 9:allowed 10:g 11:s 12:w 13:h 14:f 15:l 16:at 17:k · results [6] -/
def ir3_r0 : IC := .reg [⟨some 3, none, false, .box (.t 0)⟩,
  ⟨some 4, none, false, .box (.t 1)⟩,
  ⟨some 6, none, false, .mv (.k (.bool false))⟩] (some [2, 3, 4])
def ir3_r1 : IC := .reg [⟨some 19, none, false, .lda 9 (.t 3)⟩,
  ⟨some 20, none, false, .fad 0 (.t 4)⟩,
  ⟨some 21, none, false, .lda 2 (.t 20)⟩,
  ⟨some 22, none, false, .fad 2 (.t 4)⟩,
  ⟨some 23, none, false, .lda 2 (.t 22)⟩,
  ⟨some 24, none, false, .call (.f 4) [(.t 19), (.t 21), (.t 23)]⟩,
  ⟨some 18, none, false, .mv (.t 24)⟩,
  ⟨some 25, none, false, .ext (.t 18) 0⟩,
  ⟨some 26, none, false, .ext (.t 18) 1⟩,
  ⟨some 7, none, false, .mv (.t 25)⟩,
  ⟨some 8, none, false, .mv (.t 26)⟩] (some [2, 7, 8])
def ir3_r2 : IC := .reg [⟨some 27, none, false, .mv (.t 8)⟩,
  ⟨some 28, none, false, .cmp .neq (.t 27) (.k (.int .i64 0))⟩] (some [2, 7, 28])
def ir3_r3 : IC := .reg [⟨some 29, none, false, .mv (.t 7)⟩,
  ⟨some 30, none, false, .cmp .eql (.t 29) (.k (.int .u8 0))⟩,
  ⟨some 31, none, false, .mv (.t 30)⟩,
  ⟨some 32, some (31, true), false, .call (.f 5) []⟩,
  ⟨some 33, none, false, .pick (.t 31) (.t 32) (.k (.bool false))⟩,
  ⟨some 6, none, false, .mv (.t 33)⟩] (some [6])
def ir3_1 : IC := .seq ir3_r3 .ret
def ir3_2 : IC := .cond (.t 28) ir3_1 .skip
def ir3_3 : IC := .seq ir3_r2 ir3_2
def ir3_r4 : IC := .reg [⟨some 34, none, false, .mv (.t 7)⟩,
  ⟨some 35, none, false, .cmp .eql (.t 34) (.k (.int .u8 0))⟩] (some [2, 7, 35])
def ir3_r5 : IC := .reg [⟨some 6, none, false, .mv (.k (.bool false))⟩] (some [6])
def ir3_4 : IC := .seq ir3_r5 .ret
def ir3_5 : IC := .cond (.t 35) ir3_4 .skip
def ir3_6 : IC := .seq ir3_r4 ir3_5
def ir3_r6 : IC := .reg [⟨some 36, none, false, .mv (.t 2)⟩,
  ⟨some 37, none, false, .bits .and (.t 36) (.k (.int .u8 31))⟩,
  ⟨some 9, none, false, .mv (.t 37)⟩] (some [7, 9])
def ir3_r7 : IC := .reg [⟨some 39, none, false, .mv (.t 7)⟩,
  ⟨some 40, none, false, .mv (.t 9)⟩,
  ⟨some 41, none, false, .call (.f 6) [(.t 39), (.t 40)]⟩,
  ⟨some 38, none, false, .mv (.t 41)⟩,
  ⟨some 42, none, false, .ext (.t 38) 0⟩,
  ⟨some 43, none, false, .ext (.t 38) 1⟩,
  ⟨some 10, none, false, .mv (.t 42)⟩,
  ⟨some 8, none, false, .mv (.t 43)⟩] (some [7, 8, 9, 10])
def ir3_r8 : IC := .reg [⟨some 44, none, false, .call (.f 7) []⟩,
  ⟨some 45, none, false, .call (.f 8) []⟩,
  ⟨some 11, none, false, .alloc [(.int .i64 0), (.int .i64 0), (.int .i64 0), (.int .i64 0), (.int .i64 0), (.int .i64 0), (.int .i64 0), (.int .i64 0), (.int .i64 0), (.int .i64 0), (.int .i64 0), (.int .i64 0), (.int .u8 0)]⟩,
  ⟨some 12, none, false, .alloc [(.int .i64 0), (.int .i64 0), (.int .i64 0), (.int .i64 0), (.int .i64 0), (.int .i64 0), (.int .i64 0), (.int .i64 0), (.int .i64 0), (.int .i64 0), (.int .i64 0), (.int .i64 0), (.int .u8 0), (.string ⟨#[]⟩), (.string ⟨#[]⟩), (.string ⟨#[]⟩), (.string ⟨#[]⟩), (.string ⟨#[]⟩), (.string ⟨#[]⟩)]⟩,
  ⟨none, none, false, .st 13 (.t 11) (.t 44)⟩,
  ⟨none, none, false, .st 19 (.t 12) (.t 45)⟩] (some [7, 8, 9, 10, 11, 12])
def ir3_r9 : IC := .reg [⟨some 46, none, false, .mv (.t 9)⟩,
  ⟨some 47, none, false, .mv (.t 7)⟩,
  ⟨some 48, none, false, .fad 12 (.t 11)⟩,
  ⟨none, none, false, .st 1 (.t 48) (.t 46)⟩,
  ⟨some 49, none, false, .fad 12 (.t 12)⟩,
  ⟨none, none, false, .st 1 (.t 49) (.t 47)⟩] (some [8, 10, 11, 12])
def ir3_r10 : IC := .reg [⟨some 51, none, false, .lda 13 (.t 11)⟩,
  ⟨some 52, none, false, .lda 19 (.t 12)⟩,
  ⟨some 53, none, false, .call (.f 9) [(.t 51), (.t 52)]⟩,
  ⟨some 50, none, false, .mv (.t 53)⟩,
  ⟨some 54, none, false, .ext (.t 50) 0⟩,
  ⟨some 55, none, false, .ext (.t 50) 1⟩,
  ⟨some 13, none, false, .mv (.t 54)⟩,
  ⟨some 14, none, false, .mv (.t 55)⟩] (some [8, 10, 11, 12, 13, 14])
def ir3_r11 : IC := .reg [⟨some 57, none, false, .lda 13 (.t 11)⟩,
  ⟨some 58, none, false, .lda 19 (.t 12)⟩,
  ⟨some 59, none, false, .call (.f 10) [(.t 57), (.t 58)]⟩,
  ⟨some 56, none, false, .mv (.t 59)⟩,
  ⟨some 60, none, false, .ext (.t 56) 0⟩,
  ⟨some 61, none, false, .ext (.t 56) 1⟩,
  ⟨some 62, none, false, .ext (.t 56) 2⟩,
  ⟨some 15, none, false, .mv (.t 60)⟩,
  ⟨some 16, none, false, .mv (.t 61)⟩,
  ⟨some 17, none, false, .mv (.t 62)⟩] (some [8, 10, 13, 14, 15, 16, 17])
def ir3_r12 : IC := .reg [⟨some 63, none, false, .mv (.t 8)⟩,
  ⟨some 64, none, false, .cmp .neq (.t 63) (.k (.int .i64 0))⟩,
  ⟨some 65, none, false, .mv (.t 64)⟩,
  ⟨some 66, some (65, false), false, .mv (.t 14)⟩,
  ⟨some 67, some (65, false), false, .cmp .neq (.t 66) (.k (.int .i64 0))⟩,
  ⟨some 68, none, false, .pick (.t 65) (.k (.bool true)) (.t 67)⟩,
  ⟨some 69, none, false, .mv (.t 68)⟩,
  ⟨some 70, some (69, false), false, .mv (.t 10)⟩,
  ⟨some 71, some (69, false), false, .mv (.t 13)⟩,
  ⟨some 72, some (69, false), false, .cmp .neq (.t 70) (.t 71)⟩,
  ⟨some 73, none, false, .pick (.t 69) (.k (.bool true)) (.t 72)⟩] (some [10, 15, 16, 17, 73])
def ir3_r13 : IC := .reg [⟨some 6, none, false, .mv (.k (.bool false))⟩] (some [6])
def ir3_7 : IC := .seq ir3_r13 .ret
def ir3_8 : IC := .cond (.t 73) ir3_7 .skip
def ir3_9 : IC := .seq ir3_r12 ir3_8
def ir3_r14 : IC := .reg [⟨some 74, none, false, .mv (.t 10)⟩,
  ⟨some 75, none, false, .cmp .eql (.t 74) (.k (.int .u8 1))⟩] (some [15, 16, 17, 75])
def ir3_r15 : IC := .reg [⟨some 76, none, false, .mv (.t 17)⟩,
  ⟨some 77, none, false, .cmp .eql (.t 76) (.k (.int .i64 0))⟩,
  ⟨some 78, none, false, .mv (.t 77)⟩,
  ⟨some 79, some (78, true), false, .mv (.t 16)⟩,
  ⟨some 80, some (78, true), false, .cmp .eql (.t 79) (.k (.int .i64 0))⟩,
  ⟨some 81, none, false, .pick (.t 78) (.t 80) (.k (.bool false))⟩,
  ⟨some 82, none, false, .mv (.t 81)⟩,
  ⟨some 83, some (82, true), false, .mv (.t 15)⟩,
  ⟨some 84, some (82, true), false, .len (.t 83)⟩,
  ⟨some 85, some (82, true), false, .cmp .eql (.t 84) (.k (.int .i64 6))⟩,
  ⟨some 86, none, false, .pick (.t 82) (.t 85) (.k (.bool false))⟩,
  ⟨some 87, none, false, .mv (.t 86)⟩,
  ⟨some 88, some (87, true), false, .call (.f 5) []⟩,
  ⟨some 89, none, false, .pick (.t 87) (.t 88) (.k (.bool false))⟩,
  ⟨some 6, none, false, .mv (.t 89)⟩] (some [6])
def ir3_10 : IC := .seq ir3_r15 .ret
def ir3_11 : IC := .cond (.t 75) ir3_10 .skip
def ir3_12 : IC := .seq ir3_r14 ir3_11
def ir3_r16 : IC := .reg [⟨some 90, none, false, .mv (.t 17)⟩,
  ⟨some 91, none, false, .cmp .eql (.t 90) (.k (.int .i64 100))⟩,
  ⟨some 92, none, false, .mv (.t 91)⟩,
  ⟨some 93, some (92, true), false, .mv (.t 16)⟩,
  ⟨some 94, some (92, true), false, .cmp .eql (.t 93) (.k (.int .i64 6))⟩,
  ⟨some 95, none, false, .pick (.t 92) (.t 94) (.k (.bool false))⟩,
  ⟨some 96, none, false, .mv (.t 95)⟩,
  ⟨some 97, some (96, true), false, .mv (.t 15)⟩,
  ⟨some 98, some (96, true), false, .len (.t 97)⟩,
  ⟨some 99, some (96, true), false, .cmp .eql (.t 98) (.k (.int .i64 0))⟩,
  ⟨some 100, none, false, .pick (.t 96) (.t 99) (.k (.bool false))⟩,
  ⟨some 101, none, false, .mv (.t 100)⟩,
  ⟨some 102, some (101, true), false, .call (.f 5) []⟩,
  ⟨some 103, none, false, .pick (.t 101) (.t 102) (.k (.bool false))⟩,
  ⟨some 6, none, false, .mv (.t 103)⟩] (some [6])
def ir3_13 : IC := .seq ir3_r16 .ret
def ir3_14 : IC := .seq ir3_12 ir3_13
def ir3_15 : IC := .seq ir3_9 ir3_14
def ir3_16 : IC := .seq ir3_r11 ir3_15
def ir3_17 : IC := .seq ir3_r10 ir3_16
def ir3_18 : IC := .seq ir3_r9 ir3_17
def ir3_19 : IC := .seq ir3_r8 ir3_18
def ir3_20 : IC := .seq ir3_r7 ir3_19
def ir3_21 : IC := .seq ir3_r6 ir3_20
def ir3_22 : IC := .seq ir3_6 ir3_21
def ir3_23 : IC := .seq ir3_3 ir3_22
def ir3_24 : IC := .seq ir3_r1 ir3_23
def ir3_25 : IC := .seq ir3_r0 ir3_24
def ir3 : IC := ir3_25
theorem fn3 : FnIs Tryd.prog 3 ir3 104 [.tmp 6] := ⟨Tryd.f3, Tryd.f3.body.getD .skip, Tryd.func3, by kernel_rfl, by kernel_rfl, by kernel_rfl, by kernel_rfl⟩
theorem regions_law (sc rl rh gl gh : Int) (bs : List Int) (hl : bs.length = 8) (w : Nat) (hw : w < 256) :
    Fc Tryd.prog 3 [.agg ⟨mL sc bs⟩, .agg #[I6 rl, I6 rh, I6 gl, I6 gh], u8 w] (Hp 1 [none]) (.bool true) (Hp 1 [none]) := by
  refine Fc.intro0 fn3 (by simp) rfl rfl ?_; simp only [argF]
  obtain ⟨t1, t2⟩ := tk_m (sc := sc) bs hl
  refine ITri.seq ?_
  refine ITri.reg pok ?_; simp -implicitDefEqProofs (disch := first | decide | exact of_eq_true (eq_true rfl) | omega | assumption) only [ ↓vcD, vcE, ↓vcG, vcF, evs, evP, evB, intsOf, fillC, Value.cells, pt, Value.oneCell', reduceIte, reduceCtorEq, Nat.reduceEqDiff, Nat.reduceAdd, Nat.reduceMul, Nat.reduceLT, Nat.reduceBEq, Nat.reduceLeDiff, Nat.reduceSub] -- r0
  refine ITri.seq ?_
  refine ITri.reg pok ?_; simp -implicitDefEqProofs (disch := first | decide | exact of_eq_true (eq_true rfl) | omega | assumption) only [t1,  ↓vcD, vcE, ↓vcG, vcF, evs, evP, evB, intsOf, fillC, Value.cells, pt, Value.oneCell', reduceIte, reduceCtorEq, Nat.reduceEqDiff, Nat.reduceAdd, Nat.reduceMul, Nat.reduceLT, Nat.reduceBEq, Nat.reduceLeDiff, Nat.reduceSub] -- r1
  by_cases hv : okM sc bs ∧ okP rl rh gl gh
  · obtain ⟨M, P⟩ := hv
    obtain ⟨v, hv⟩ : ∃ v, v = setN (posF sc bs rl rh gl gh) 5 := ⟨_, rfl⟩
    have v32 : v < 32 := by rw [hv]; exact setN_lt _ 5
    have v1 : 1 ≤ v := by
      obtain ⟨k, hk, hp⟩ := some_poss M P
      rw [hv]
      exact setN_pos hk (decide_eq_true hp)
    refine ⟨_, _, reg_f hl (.inl ⟨M, P, hv, rfl⟩) (sees0 rfl (of_decide_eq_true rfl)), ?_⟩
    try simp -implicitDefEqProofs (disch := first | decide | exact of_eq_true (eq_true rfl) | omega | assumption) only [ ↓vcD, vcE, ↓vcG, vcF, evs, evP, evB, intsOf, fillC, Value.cells, pt, Value.oneCell', reduceIte, reduceCtorEq, Nat.reduceEqDiff, Nat.reduceAdd, Nat.reduceMul, Nat.reduceLT, Nat.reduceBEq, Nat.reduceLeDiff, Nat.reduceSub]
    refine ITri.seq ?_
    refine ITri.seq ?_
    refine ITri.reg pok ?_; simp -implicitDefEqProofs (disch := first | decide | exact of_eq_true (eq_true rfl) | omega | assumption) only [decide_true, Bool.not_true,  ↓vcD, vcE, ↓vcG, vcF, evs, evP, evB, intsOf, fillC, Value.cells, pt, Value.oneCell', reduceIte, reduceCtorEq, Nat.reduceEqDiff, Nat.reduceAdd, Nat.reduceMul, Nat.reduceLT, Nat.reduceBEq, Nat.reduceLeDiff, Nat.reduceSub] -- r2
    refine ITri.cond (v := false) rfl (fun h => by cases h) (fun _ => ?_); refine ITri.skip ?_; simp only [SeqQ_normal, BlkQ_normal]
    have hv0 : ¬ (v : Int) = 0 := by omega
    obtain ⟨e31, a32⟩ := w31 hw
    generalize ha : w &&& 31 = a at *
    refine ITri.seq ?_
    refine ITri.seq ?_
    unfold u8
    refine ITri.reg pok ?_; simp -implicitDefEqProofs (disch := first | decide | exact of_eq_true (eq_true rfl) | omega | assumption) only [hv0, decide_false,  ↓vcD, vcE, ↓vcG, vcF, evs, evP, evB, intsOf, fillC, Value.cells, pt, Value.oneCell', reduceIte, reduceCtorEq, Nat.reduceEqDiff, Nat.reduceAdd, Nat.reduceMul, Nat.reduceLT, Nat.reduceBEq, Nat.reduceLeDiff, Nat.reduceSub] -- r4
    refine ITri.cond (v := false) rfl (fun h => by cases h) (fun _ => ?_); refine ITri.skip ?_; simp only [SeqQ_normal, BlkQ_normal]
    refine ITri.seq ?_
    refine ITri.reg pok ?_; simp -implicitDefEqProofs (disch := first | decide | exact of_eq_true (eq_true rfl) | omega | assumption) only [e31,  ↓vcD, vcE, ↓vcG, vcF, evs, evP, evB, intsOf, fillC, Value.cells, pt, Value.oneCell', reduceIte, reduceCtorEq, Nat.reduceEqDiff, Nat.reduceAdd, Nat.reduceMul, Nat.reduceLT, Nat.reduceBEq, Nat.reduceLeDiff, Nat.reduceSub] -- r6
    refine ITri.seq ?_
    refine ITri.reg pok ?_; simp -implicitDefEqProofs (disch := first | decide | exact of_eq_true (eq_true rfl) | omega | assumption) only [ ↓vcD, vcE, ↓vcG, vcF, evs, evP, evB, intsOf, fillC, Value.cells, pt, Value.oneCell', reduceIte, reduceCtorEq, Nat.reduceEqDiff, Nat.reduceAdd, Nat.reduceMul, Nat.reduceLT, Nat.reduceBEq, Nat.reduceLeDiff, Nat.reduceSub] -- r7
    refine ⟨_, _, judge_f v32 a32 (sees0 rfl (of_decide_eq_true rfl)), ?_⟩
    try simp -implicitDefEqProofs (disch := first | decide | exact of_eq_true (eq_true rfl) | omega | assumption) only [ ↓vcD, vcE, ↓vcG, vcF, evs, evP, evB, intsOf, fillC, Value.cells, pt, Value.oneCell', reduceIte, reduceCtorEq, Nat.reduceEqDiff, Nat.reduceAdd, Nat.reduceMul, Nat.reduceLT, Nat.reduceBEq, Nat.reduceLeDiff, Nat.reduceSub]
    refine ITri.seq ?_
    refine ITri.reg pok ?_; simp -implicitDefEqProofs (disch := first | decide | exact of_eq_true (eq_true rfl) | omega | assumption) only [ ↓vcD, vcE, ↓vcG, vcF, evs, evP, evB, intsOf, fillC, Value.cells, pt, Value.oneCell', reduceIte, reduceCtorEq, Nat.reduceEqDiff, Nat.reduceAdd, Nat.reduceMul, Nat.reduceLT, Nat.reduceBEq, Nat.reduceLeDiff, Nat.reduceSub] -- r8
    refine ⟨_, _, open_f (sees0 rfl (of_decide_eq_true rfl)), ?_⟩
    try simp -implicitDefEqProofs (disch := first | decide | exact of_eq_true (eq_true rfl) | omega | assumption) only [ ↓vcD, vcE, ↓vcG, vcF, evs, evP, evB, intsOf, fillC, Value.cells, pt, Value.oneCell', reduceIte, reduceCtorEq, Nat.reduceEqDiff, Nat.reduceAdd, Nat.reduceMul, Nat.reduceLT, Nat.reduceBEq, Nat.reduceLeDiff, Nat.reduceSub]
    refine ⟨_, _, plain_f (sees0 rfl (of_decide_eq_true rfl)), ?_⟩
    try simp -implicitDefEqProofs (disch := first | decide | exact of_eq_true (eq_true rfl) | omega | assumption) only [ ↓vcD, vcE, ↓vcG, vcF, evs, evP, evB, intsOf, fillC, Value.cells, pt, Value.oneCell', reduceIte, reduceCtorEq, Nat.reduceEqDiff, Nat.reduceAdd, Nat.reduceMul, Nat.reduceLT, Nat.reduceBEq, Nat.reduceLeDiff, Nat.reduceSub]
    refine ⟨rfl, rfl, ?_⟩
    have ls : (specL 31).length = 13 := rfl
    have lw : (wafL 1).length = 19 := rfl
    have ws : writeAt (specL 31) 12 [.int .u8 a] = specL a := rfl
    have ww : writeAt (wafL 1) 12 [.int .u8 v] = wafL v := rfl
    refine ITri.seq ?_
    refine ITri.reg pok ?_; simp -implicitDefEqProofs (disch := first | decide | exact of_eq_true (eq_true rfl) | omega | assumption) only [ls, lw, ws, ww,  ↓vcD, vcE, ↓vcG, vcF, evs, evP, evB, intsOf, fillC, Value.cells, pt, Value.oneCell', reduceIte, reduceCtorEq, Nat.reduceEqDiff, Nat.reduceAdd, Nat.reduceMul, Nat.reduceLT, Nat.reduceBEq, Nat.reduceLeDiff, Nat.reduceSub] -- r9
    refine ITri.seq ?_
    refine ITri.reg pok ?_; simp -implicitDefEqProofs (disch := first | decide | exact of_eq_true (eq_true rfl) | omega | assumption) only [@tk_spec a, @tk_waf v,  ↓vcD, vcE, ↓vcG, vcF, evs, evP, evB, intsOf, fillC, Value.cells, pt, Value.oneCell', reduceIte, reduceCtorEq, Nat.reduceEqDiff, Nat.reduceAdd, Nat.reduceMul, Nat.reduceLT, Nat.reduceBEq, Nat.reduceLeDiff, Nat.reduceSub] -- r10
    refine ⟨_, _, passes_f a32 v1 v32 (sees0 rfl (of_decide_eq_true rfl)), ?_⟩
    try simp -implicitDefEqProofs (disch := first | decide | exact of_eq_true (eq_true rfl) | omega | assumption) only [ ↓vcD, vcE, ↓vcG, vcF, evs, evP, evB, intsOf, fillC, Value.cells, pt, Value.oneCell', reduceIte, reduceCtorEq, Nat.reduceEqDiff, Nat.reduceAdd, Nat.reduceMul, Nat.reduceLT, Nat.reduceBEq, Nat.reduceLeDiff, Nat.reduceSub]
    refine ITri.seq ?_
    refine ITri.reg pok ?_; simp -implicitDefEqProofs (disch := first | decide | exact of_eq_true (eq_true rfl) | omega | assumption) only [@tk_spec a, @tk_waf v,  ↓vcD, vcE, ↓vcG, vcF, evs, evP, evB, intsOf, fillC, Value.cells, pt, Value.oneCell', reduceIte, reduceCtorEq, Nat.reduceEqDiff, Nat.reduceAdd, Nat.reduceMul, Nat.reduceLT, Nat.reduceBEq, Nat.reduceLeDiff, Nat.reduceSub] -- r11
    have hn0 : ¬ (6 : Int) = 0 := by decide
    have h66 : (((6 : Nat) : Int) = 6) = True := eq_true rfl
    have h00' : (((0 : Nat) : Int) = 0) = True := eq_true rfl
    by_cases hz : v &&& a = v
    · have hg : gradeF v a = 1 := by unfold gradeF; rw [if_pos hz]
      rw [hg]
      have h11 : (((1 : Nat) : Int) = 1) = True := eq_true rfl
      refine ⟨_, _, certify_sf a32 v1 v32 hz (sees0 rfl (of_decide_eq_true rfl)), ?_⟩
      simp -implicitDefEqProofs (disch := first | decide | exact of_eq_true (eq_true rfl) | omega | assumption) only [news_c, news_n,  ↓vcD, vcE, ↓vcG, vcF, evs, evP, evB, intsOf, fillC, Value.cells, pt, Value.oneCell', reduceIte, reduceCtorEq, Nat.reduceEqDiff, Nat.reduceAdd, Nat.reduceMul, Nat.reduceLT, Nat.reduceBEq, Nat.reduceLeDiff, Nat.reduceSub]
      refine ITri.seq ?_
      refine ITri.seq ?_
      unfold u8
      refine ITri.reg pok ?_; simp -implicitDefEqProofs (disch := first | decide | exact of_eq_true (eq_true rfl) | omega | assumption) only [decide_true, Bool.not_true,  ↓vcD, vcE, ↓vcG, vcF, evs, evP, evB, intsOf, fillC, Value.cells, pt, Value.oneCell', reduceIte, reduceCtorEq, Nat.reduceEqDiff, Nat.reduceAdd, Nat.reduceMul, Nat.reduceLT, Nat.reduceBEq, Nat.reduceLeDiff, Nat.reduceSub] -- r12
      refine ITri.cond (v := false) rfl (fun h => by cases h) (fun _ => ?_); refine ITri.skip ?_; simp only [SeqQ_normal, BlkQ_normal]
      refine ITri.seq ?_
      refine ITri.seq ?_
      refine ITri.reg pok ?_; simp -implicitDefEqProofs (disch := first | decide | exact of_eq_true (eq_true rfl) | omega | assumption) only [h11, decide_true,  ↓vcD, vcE, ↓vcG, vcF, evs, evP, evB, intsOf, fillC, Value.cells, pt, Value.oneCell', reduceIte, reduceCtorEq, Nat.reduceEqDiff, Nat.reduceAdd, Nat.reduceMul, Nat.reduceLT, Nat.reduceBEq, Nat.reduceLeDiff, Nat.reduceSub] -- r14
      refine ITri.cond (v := true) rfl (fun _ => ?_) (fun h => by cases h)
      refine ITri.seq ?_
      refine ITri.reg pok ?_; simp -implicitDefEqProofs (disch := first | decide | exact of_eq_true (eq_true rfl) | omega | assumption) only [h66, decide_true,  ↓vcD, vcE, ↓vcG, vcF, evs, evP, evB, intsOf, fillC, Value.cells, pt, Value.oneCell', reduceIte, reduceCtorEq, Nat.reduceEqDiff, Nat.reduceAdd, Nat.reduceMul, Nat.reduceLT, Nat.reduceBEq, Nat.reduceLeDiff, Nat.reduceSub] -- r15
      refine ⟨_, _, sold_f, ?_⟩
      try simp -implicitDefEqProofs (disch := first | decide | exact of_eq_true (eq_true rfl) | omega | assumption) only [ ↓vcD, vcE, ↓vcG, vcF, evs, evP, evB, intsOf, fillC, Value.cells, pt, Value.oneCell', reduceIte, reduceCtorEq, Nat.reduceEqDiff, Nat.reduceAdd, Nat.reduceMul, Nat.reduceLT, Nat.reduceBEq, Nat.reduceLeDiff, Nat.reduceSub]
      refine ITri.ret ?_; exact EndR.plain (by simp) (by rfl) (by rfl) (by rfl)
    · have hg : ¬ ((gradeF v a : Nat) : Int) = 1 := by
        unfold gradeF
        rw [if_neg hz]
        split <;> decide
      generalize gradeF v a = g at *
      refine ⟨_, _, certify_nf a32 v1 v32 hz (sees0 rfl (of_decide_eq_true rfl)), ?_⟩
      try simp -implicitDefEqProofs (disch := first | decide | exact of_eq_true (eq_true rfl) | omega | assumption) only [ ↓vcD, vcE, ↓vcG, vcF, evs, evP, evB, intsOf, fillC, Value.cells, pt, Value.oneCell', reduceIte, reduceCtorEq, Nat.reduceEqDiff, Nat.reduceAdd, Nat.reduceMul, Nat.reduceLT, Nat.reduceBEq, Nat.reduceLeDiff, Nat.reduceSub]
      refine ITri.seq ?_
      refine ITri.seq ?_
      unfold u8
      refine ITri.reg pok ?_; simp -implicitDefEqProofs (disch := first | decide | exact of_eq_true (eq_true rfl) | omega | assumption) only [decide_true, Bool.not_true,  ↓vcD, vcE, ↓vcG, vcF, evs, evP, evB, intsOf, fillC, Value.cells, pt, Value.oneCell', reduceIte, reduceCtorEq, Nat.reduceEqDiff, Nat.reduceAdd, Nat.reduceMul, Nat.reduceLT, Nat.reduceBEq, Nat.reduceLeDiff, Nat.reduceSub] -- r12
      refine ITri.cond (v := false) rfl (fun h => by cases h) (fun _ => ?_); refine ITri.skip ?_; simp only [SeqQ_normal, BlkQ_normal]
      refine ITri.seq ?_
      refine ITri.seq ?_
      refine ITri.reg pok ?_; simp -implicitDefEqProofs (disch := first | decide | exact of_eq_true (eq_true rfl) | omega | assumption) only [hg, decide_false,  ↓vcD, vcE, ↓vcG, vcF, evs, evP, evB, intsOf, fillC, Value.cells, pt, Value.oneCell', reduceIte, reduceCtorEq, Nat.reduceEqDiff, Nat.reduceAdd, Nat.reduceMul, Nat.reduceLT, Nat.reduceBEq, Nat.reduceLeDiff, Nat.reduceSub] -- r14
      refine ITri.cond (v := false) rfl (fun h => by cases h) (fun _ => ?_); refine ITri.skip ?_; simp only [SeqQ_normal, BlkQ_normal]
      refine ITri.seq ?_
      refine ITri.reg pok ?_; simp -implicitDefEqProofs (disch := first | decide | exact of_eq_true (eq_true rfl) | omega | assumption) only [h00', decide_true,  ↓vcD, vcE, ↓vcG, vcF, evs, evP, evB, intsOf, fillC, Value.cells, pt, Value.oneCell', reduceIte, reduceCtorEq, Nat.reduceEqDiff, Nat.reduceAdd, Nat.reduceMul, Nat.reduceLT, Nat.reduceBEq, Nat.reduceLeDiff, Nat.reduceSub] -- r16
      refine ⟨_, _, sold_f, ?_⟩
      try simp -implicitDefEqProofs (disch := first | decide | exact of_eq_true (eq_true rfl) | omega | assumption) only [ ↓vcD, vcE, ↓vcG, vcF, evs, evP, evB, intsOf, fillC, Value.cells, pt, Value.oneCell', reduceIte, reduceCtorEq, Nat.reduceEqDiff, Nat.reduceAdd, Nat.reduceMul, Nat.reduceLT, Nat.reduceBEq, Nat.reduceLeDiff, Nat.reduceSub]
      refine ITri.ret ?_; exact EndR.plain (by simp) (by rfl) (by rfl) (by rfl)
  · refine ⟨_, _, reg_f hl (.inr ⟨hv, rfl, rfl⟩) (sees0 rfl (of_decide_eq_true rfl)), ?_⟩
    try simp -implicitDefEqProofs (disch := first | decide | exact of_eq_true (eq_true rfl) | omega | assumption) only [ ↓vcD, vcE, ↓vcG, vcF, evs, evP, evB, intsOf, fillC, Value.cells, pt, Value.oneCell', reduceIte, reduceCtorEq, Nat.reduceEqDiff, Nat.reduceAdd, Nat.reduceMul, Nat.reduceLT, Nat.reduceBEq, Nat.reduceLeDiff, Nat.reduceSub]
    have h20 : ¬ (2 : Int) = 0 := by decide
    have h00' : (((0 : Nat) : Int) = 0) = True := eq_true rfl
    refine ITri.seq ?_
    refine ITri.seq ?_
    refine ITri.reg pok ?_; simp -implicitDefEqProofs (disch := first | decide | exact of_eq_true (eq_true rfl) | omega | assumption) only [h20, decide_false, Bool.not_false,  ↓vcD, vcE, ↓vcG, vcF, evs, evP, evB, intsOf, fillC, Value.cells, pt, Value.oneCell', reduceIte, reduceCtorEq, Nat.reduceEqDiff, Nat.reduceAdd, Nat.reduceMul, Nat.reduceLT, Nat.reduceBEq, Nat.reduceLeDiff, Nat.reduceSub] -- r2
    refine ITri.cond (v := true) rfl (fun _ => ?_) (fun h => by cases h)
    refine ITri.seq ?_
    unfold u8
    refine ITri.reg pok ?_; simp -implicitDefEqProofs (disch := first | decide | exact of_eq_true (eq_true rfl) | omega | assumption) only [h00', decide_true,  ↓vcD, vcE, ↓vcG, vcF, evs, evP, evB, intsOf, fillC, Value.cells, pt, Value.oneCell', reduceIte, reduceCtorEq, Nat.reduceEqDiff, Nat.reduceAdd, Nat.reduceMul, Nat.reduceLT, Nat.reduceBEq, Nat.reduceLeDiff, Nat.reduceSub] -- r3
    refine ⟨_, _, sold_f, ?_⟩
    try simp -implicitDefEqProofs (disch := first | decide | exact of_eq_true (eq_true rfl) | omega | assumption) only [ ↓vcD, vcE, ↓vcG, vcF, evs, evP, evB, intsOf, fillC, Value.cells, pt, Value.oneCell', reduceIte, reduceCtorEq, Nat.reduceEqDiff, Nat.reduceAdd, Nat.reduceMul, Nat.reduceLT, Nat.reduceBEq, Nat.reduceLeDiff, Nat.reduceSub]
    refine ITri.ret ?_; exact EndR.plain (by simp) (by rfl) (by rfl) (by rfl)
end Go.Proofs.YtfbkbkgjmpbmaaaDoor
