/-
  Chapter 6: the reference's Turn, by names.
-/
import Derived.Test.YtgjokhodccacoaaDoorRecC2
set_option linter.unusedSimpArgs false
set_option linter.unusedVariables false
namespace Go.Proofs.YtgjokhodccacoaaDoor
open Go.RowKit Go.Vm
set_option maxRecDepth 100000
/- boule/bouleref06.Turn · slots 61 · names 0:m 1:quarters 2:m 3:quarters 6:q 7:next 8:x 9:y · results [4, 5] -/
def ir58_r0 : IC := .reg [⟨some 2, none, false, .box (.t 0)⟩,
  ⟨some 4, none, false, .alloc [(.int .i64 0), (.int .i64 0), (.slice none 0 0)]⟩,
  ⟨some 5, none, false, .mv (.k (.int .i64 0))⟩] (some [1, 2, 4])
def ir58_r1 : IC := .reg [⟨some 10, none, false, .lda 3 (.t 2)⟩,
  ⟨some 11, none, false, .call (.f 39) [(.t 10)]⟩,
  ⟨some 12, none, false, .not (.t 11)⟩] (some [1, 2, 4, 12])
def ir58_r2 : IC := .reg [⟨some 13, none, false, .bld [(.int .i64 0), (.int .i64 0), (.slice none 0 0)] []⟩,
  ⟨none, none, false, .st 3 (.t 4) (.t 13)⟩,
  ⟨some 5, none, false, .mv (.k (.int .i64 2))⟩] (some [4, 5])
def ir58_1 : IC := .seq ir58_r2 .ret
def ir58_2 : IC := .cond (.t 12) ir58_1 .skip
def ir58_3 : IC := .seq ir58_r1 ir58_2
def ir58_r3 : IC := .reg [⟨some 14, none, false, .mv (.t 1)⟩,
  ⟨some 15, none, false, .cmp .lss (.t 14) (.k (.int .i64 0))⟩,
  ⟨some 16, none, false, .mv (.t 15)⟩,
  ⟨some 17, some (16, false), false, .mv (.t 1)⟩,
  ⟨some 18, some (16, false), false, .cmp .gtr (.t 17) (.k (.int .i64 3))⟩,
  ⟨some 19, none, false, .pick (.t 16) (.k (.bool true)) (.t 18)⟩] (some [1, 2, 4, 19])
def ir58_r4 : IC := .reg [⟨some 20, none, false, .bld [(.int .i64 0), (.int .i64 0), (.slice none 0 0)] []⟩,
  ⟨none, none, false, .st 3 (.t 4) (.t 20)⟩,
  ⟨some 5, none, false, .mv (.k (.int .i64 3))⟩] (some [4, 5])
def ir58_4 : IC := .seq ir58_r4 .ret
def ir58_5 : IC := .cond (.t 19) ir58_4 .skip
def ir58_6 : IC := .seq ir58_r3 ir58_5
def ir58_r5 : IC := .reg [⟨some 6, none, false, .mv (.k (.int .i64 0))⟩] (some [1, 2, 4, 6])
def ir58_r6 : IC := .reg [⟨some 21, none, false, .mv (.t 6)⟩,
  ⟨some 22, none, false, .mv (.t 1)⟩,
  ⟨some 23, none, false, .cmp .lss (.t 21) (.t 22)⟩] (some [1, 2, 4, 6, 23])
def ir58_7 : IC := .cond (.t 23) .skip (.exit 0)
def ir58_8 : IC := .seq ir58_r6 ir58_7
def ir58_r8 : IC := .reg [⟨some 26, none, false, .fad 1 (.t 2)⟩,
  ⟨some 27, none, false, .ldc (.t 26)⟩,
  ⟨some 28, none, false, .fad 0 (.t 2)⟩,
  ⟨some 29, none, false, .ldc (.t 28)⟩,
  ⟨some 30, none, false, .bld [(.int .i64 0), (.int .i64 0), (.slice none 0 0)] [(0, 1, (.t 27)), (1, 1, (.t 29))]⟩,
  ⟨some 7, none, false, .alloc [(.int .i64 0), (.int .i64 0), (.slice none 0 0)]⟩,
  ⟨none, none, false, .st 3 (.t 7) (.t 30)⟩] (some [1, 2, 4, 6, 7])
def ir58_r9 : IC := .reg [⟨some 8, none, false, .mv (.k (.int .i64 0))⟩] (some [1, 2, 4, 6, 7, 8])
def ir58_r10 : IC := .reg [⟨some 31, none, false, .mv (.t 8)⟩,
  ⟨some 32, none, false, .fad 0 (.t 2)⟩,
  ⟨some 33, none, false, .ldc (.t 32)⟩,
  ⟨some 34, none, false, .cmp .lss (.t 31) (.t 33)⟩] (some [1, 2, 4, 6, 7, 8, 34])
def ir58_9 : IC := .cond (.t 34) .skip (.exit 2)
def ir58_10 : IC := .seq ir58_r10 ir58_9
def ir58_r12 : IC := .reg [⟨some 37, none, false, .fad 1 (.t 2)⟩,
  ⟨some 38, none, false, .ldc (.t 37)⟩,
  ⟨some 39, none, false, .ar .sub (.t 38) (.k (.int .i64 1))⟩,
  ⟨some 9, none, false, .mv (.t 39)⟩] (some [1, 2, 4, 6, 7, 8, 9])
def ir58_r13 : IC := .reg [⟨some 40, none, false, .mv (.t 9)⟩,
  ⟨some 41, none, false, .cmp .geq (.t 40) (.k (.int .i64 0))⟩] (some [1, 2, 4, 6, 7, 8, 9, 41])
def ir58_11 : IC := .cond (.t 41) .skip (.exit 4)
def ir58_12 : IC := .seq ir58_r13 ir58_11
def ir58_r15 : IC := .draw [(⟨some 44, none, false, .fad 2 (.t 7)⟩, false, 0, 0),
  (⟨some 45, none, false, .ldc (.t 44)⟩, false, 1, 8193),
  (⟨some 46, none, false, .fad 2 (.t 2)⟩, false, 0, 0),
  (⟨some 47, none, false, .ldc (.t 46)⟩, false, 4, 8194),
  (⟨some 48, none, false, .mv (.t 9)⟩, false, 0, 0),
  (⟨some 49, none, false, .fad 0 (.t 2)⟩, false, 0, 0),
  (⟨some 50, none, false, .ldc (.t 49)⟩, false, 32, 8198),
  (⟨some 51, none, false, .ar .mul (.t 48) (.t 50)⟩, false, 112, 0),
  (⟨some 52, none, false, .mv (.t 8)⟩, false, 0, 0),
  (⟨some 53, none, false, .ar .add (.t 51) (.t 52)⟩, false, 496, 0),
  (⟨some 54, none, false, .iad 1 (.t 47) (.t 53)⟩, false, 1020, 0),
  (⟨some 55, none, false, .ldc (.t 54)⟩, false, 2044, 8194),
  (⟨some 56, none, false, .bsl 1 1 [(.int .i64 0)] [(0, (.t 55))]⟩, false, 4092, 8194),
  (⟨some 57, none, false, .app 1 8 (.t 45) (.t 56)⟩, true, 8191, 0),
  (⟨some 58, none, false, .fad 2 (.t 7)⟩, false, 16383, 0),
  (⟨none, none, false, .st 1 (.t 58) (.t 57)⟩, true, 32767, 0)] (some [1, 2, 4, 6, 7, 8, 9])
def ir58_13 : IC := .block 5 ir58_r15
def ir58_r14 : IC := .reg [⟨some 42, none, false, .mv (.t 9)⟩,
  ⟨some 43, none, false, .ar .sub (.t 42) (.k (.int .i64 1))⟩,
  ⟨some 9, none, false, .mv (.t 43)⟩] (some [1, 2, 4, 6, 7, 8, 9])
def ir58_14 : IC := .seq ir58_13 ir58_r14
def ir58_15 : IC := .seq ir58_12 ir58_14
def ir58_16 : IC := .loop ir58_15
def ir58_17 : IC := .block 4 ir58_16
def ir58_18 : IC := .seq ir58_r12 ir58_17
def ir58_19 : IC := .block 3 ir58_18
def ir58_r11 : IC := .reg [⟨some 35, none, false, .mv (.t 8)⟩,
  ⟨some 36, none, false, .ar .add (.t 35) (.k (.int .i64 1))⟩,
  ⟨some 8, none, false, .mv (.t 36)⟩] (some [1, 2, 4, 6, 7, 8])
def ir58_20 : IC := .seq ir58_19 ir58_r11
def ir58_21 : IC := .seq ir58_10 ir58_20
def ir58_22 : IC := .loop ir58_21
def ir58_23 : IC := .block 2 ir58_22
def ir58_24 : IC := .seq ir58_r9 ir58_23
def ir58_r16 : IC := .reg [⟨some 59, none, false, .lda 3 (.t 7)⟩,
  ⟨none, none, false, .st 3 (.t 2) (.t 59)⟩] (some [1, 2, 4, 6])
def ir58_25 : IC := .seq ir58_24 ir58_r16
def ir58_26 : IC := .seq ir58_r8 ir58_25
def ir58_27 : IC := .block 1 ir58_26
def ir58_r7 : IC := .reg [⟨some 24, none, false, .mv (.t 6)⟩,
  ⟨some 25, none, false, .ar .add (.t 24) (.k (.int .i64 1))⟩,
  ⟨some 6, none, false, .mv (.t 25)⟩] (some [1, 2, 4, 6])
def ir58_28 : IC := .seq ir58_27 ir58_r7
def ir58_29 : IC := .seq ir58_8 ir58_28
def ir58_30 : IC := .loop ir58_29
def ir58_31 : IC := .block 0 ir58_30
def ir58_32 : IC := .seq ir58_r5 ir58_31
def ir58_r17 : IC := .reg [⟨some 60, none, false, .lda 3 (.t 2)⟩,
  ⟨none, none, false, .st 3 (.t 4) (.t 60)⟩,
  ⟨some 5, none, false, .mv (.k (.int .i64 0))⟩] (some [4, 5])
def ir58_33 : IC := .seq ir58_r17 .ret
def ir58_34 : IC := .seq ir58_32 ir58_33
def ir58_35 : IC := .seq ir58_6 ir58_34
def ir58_36 : IC := .seq ir58_3 ir58_35
def ir58_37 : IC := .seq ir58_r0 ir58_36
def ir58 : IC := ir58_37
theorem fn58 : FnIs Tryd.prog 58 ir58 61 [.cell 4 56, .tmp 5] := ⟨Tryd.f58, Tryd.f58.body.getD .skip, Tryd.func58, by kernel_rfl, by kernel_rfl, by kernel_rfl, by kernel_rfl⟩
theorem rturn_bad (n c : Nat) (W H : Int) (xs : List Int) (q : Int) (hn : xs.length = n) (hb : n ≤ 1000000) (h : mOK W H xs = false) :
    Fc Tryd.prog 58 [mV 1 n c W H, .int .i64 q] (Hp 2 [none, some (.cells ⟨rows eN xs, 0, false⟩)]) (tuV 2 ([], 0, 0, 2)) ((Hp 2 [none, some (.cells ⟨rows eN xs, 0, false⟩)]).news [.cells ⟨rows eN [], 1, true⟩]) := by
  refine Fc.introR fn58 (by simp) rfl rfl ?_; simp only [argF]
  refine ITri.seq ?_
  refine ITri.reg pok ?_; simp -implicitDefEqProofs (disch := first | decide | exact of_eq_true (eq_true rfl) | omega | assumption) only [ ↓vcD, vcE, ↓vcG, vcF, evs, evP, evB, intsOf, fillC, Value.cells, pt, Value.oneCell', reduceIte, reduceCtorEq, Nat.reduceEqDiff, Nat.reduceAdd, Nat.reduceMul, Nat.reduceLT, Nat.reduceBEq, Nat.reduceLeDiff, Nat.reduceSub] -- r0 ref.go:396
  refine ITri.seq ?_
  refine ITri.seq ?_
  refine ITri.reg pok ?_; simp -implicitDefEqProofs (disch := first | decide | exact of_eq_true (eq_true rfl) | omega | assumption) only [ ↓vcD, vcE, ↓vcG, vcF, evs, evP, evB, intsOf, fillC, Value.cells, pt, Value.oneCell', reduceIte, reduceCtorEq, Nat.reduceEqDiff, Nat.reduceAdd, Nat.reduceMul, Nat.reduceLT, Nat.reduceBEq, Nat.reduceLeDiff, Nat.reduceSub] -- r1 ref.go:397 CALLS .call F39 [%10]
  refine ⟨_, _, map_f hn hb (sees0 rfl (of_decide_eq_true rfl)) (get_hq rfl rfl), ?_⟩
  rw [h]
  try simp -implicitDefEqProofs (disch := first | decide | exact of_eq_true (eq_true rfl) | omega | assumption) only [ ↓vcD, vcE, ↓vcG, vcF, evs, evP, evB, intsOf, fillC, Value.cells, pt, Value.oneCell', reduceIte, reduceCtorEq, Nat.reduceEqDiff, Nat.reduceAdd, Nat.reduceMul, Nat.reduceLT, Nat.reduceBEq, Nat.reduceLeDiff, Nat.reduceSub]
  refine ITri.cond (v := true) rfl (fun _ => ?_) (fun h => by cases h)
  refine ITri.seq ?_
  refine ITri.reg pok ?_; simp -implicitDefEqProofs (disch := first | decide | exact of_eq_true (eq_true rfl) | omega | assumption) only [ ↓vcD, vcE, ↓vcG, vcF, evs, evP, evB, intsOf, fillC, Value.cells, pt, Value.oneCell', reduceIte, reduceCtorEq, Nat.reduceEqDiff, Nat.reduceAdd, Nat.reduceMul, Nat.reduceLT, Nat.reduceBEq, Nat.reduceLeDiff, Nat.reduceSub] -- r2 ref.go:398
  refine ITri.ret ?_
  exact end_nil (mk := fun s => .tuple #[.agg #[.int .i64 0, .int .i64 0, s], .int .i64 2]) (mvT 0 0 2) (resF_agg 3 rfl (by kernel_rfl) (by simp -implicitDefEqProofs (disch := first | decide | exact of_eq_true (eq_true rfl) | omega | assumption) only [↓vcD, vcE, ↓vcG, vcF, evs, evP, evB, intsOf, fillC, Value.cells, pt, Value.oneCell', reduceIte, reduceCtorEq, Nat.reduceEqDiff, Nat.reduceAdd, Nat.reduceMul, Nat.reduceLT, Nat.reduceBEq, Nat.reduceLeDiff, Nat.reduceSub]) (resF_tmp rfl resF_nil)) rfl
theorem rturn_rng (n c : Nat) (W H : Int) (xs : List Int) (q : Int) (hn : xs.length = n) (hb : n ≤ 1000000) (h : mOK W H xs = true) (hq : inT q 0 3 = false) :
    Fc Tryd.prog 58 [mV 1 n c W H, .int .i64 q] (Hp 2 [none, some (.cells ⟨rows eN xs, 0, false⟩)]) (tuV 2 ([], 0, 0, 3)) ((Hp 2 [none, some (.cells ⟨rows eN xs, 0, false⟩)]).news [.cells ⟨rows eN [], 1, true⟩]) := by
  refine Fc.introR fn58 (by simp) rfl rfl ?_; simp only [argF]
  refine ITri.seq ?_
  refine ITri.reg pok ?_; simp -implicitDefEqProofs (disch := first | decide | exact of_eq_true (eq_true rfl) | omega | assumption) only [ ↓vcD, vcE, ↓vcG, vcF, evs, evP, evB, intsOf, fillC, Value.cells, pt, Value.oneCell', reduceIte, reduceCtorEq, Nat.reduceEqDiff, Nat.reduceAdd, Nat.reduceMul, Nat.reduceLT, Nat.reduceBEq, Nat.reduceLeDiff, Nat.reduceSub] -- r0 ref.go:396
  refine ITri.seq ?_
  refine ITri.seq ?_
  refine ITri.reg pok ?_; simp -implicitDefEqProofs (disch := first | decide | exact of_eq_true (eq_true rfl) | omega | assumption) only [ ↓vcD, vcE, ↓vcG, vcF, evs, evP, evB, intsOf, fillC, Value.cells, pt, Value.oneCell', reduceIte, reduceCtorEq, Nat.reduceEqDiff, Nat.reduceAdd, Nat.reduceMul, Nat.reduceLT, Nat.reduceBEq, Nat.reduceLeDiff, Nat.reduceSub] -- r1 ref.go:397 CALLS .call F39 [%10]
  refine ⟨_, _, map_f hn hb (sees0 rfl (of_decide_eq_true rfl)) (get_hq rfl rfl), ?_⟩
  rw [h]
  try simp -implicitDefEqProofs (disch := first | decide | exact of_eq_true (eq_true rfl) | omega | assumption) only [ ↓vcD, vcE, ↓vcG, vcF, evs, evP, evB, intsOf, fillC, Value.cells, pt, Value.oneCell', reduceIte, reduceCtorEq, Nat.reduceEqDiff, Nat.reduceAdd, Nat.reduceMul, Nat.reduceLT, Nat.reduceBEq, Nat.reduceLeDiff, Nat.reduceSub]
  refine ITri.cond (v := false) rfl (fun h => by cases h) (fun _ => ?_); refine ITri.skip ?_; simp only [SeqQ_normal, BlkQ_normal]
  refine ITri.seq ?_
  refine ITri.seq ?_
  by_cases g : q < 0
  · refine ITri.reg pok ?_; simp -implicitDefEqProofs (disch := first | decide | exact of_eq_true (eq_true rfl) | omega | assumption) only [g, decide_true,  ↓vcD, vcE, ↓vcG, vcF, evs, evP, evB, intsOf, fillC, Value.cells, pt, Value.oneCell', reduceIte, reduceCtorEq, Nat.reduceEqDiff, Nat.reduceAdd, Nat.reduceMul, Nat.reduceLT, Nat.reduceBEq, Nat.reduceLeDiff, Nat.reduceSub]
    refine ITri.cond (v := true) rfl (fun _ => ?_) (fun h => by cases h)
    refine ITri.seq ?_
    refine ITri.reg pok ?_; simp -implicitDefEqProofs (disch := first | decide | exact of_eq_true (eq_true rfl) | omega | assumption) only [ ↓vcD, vcE, ↓vcG, vcF, evs, evP, evB, intsOf, fillC, Value.cells, pt, Value.oneCell', reduceIte, reduceCtorEq, Nat.reduceEqDiff, Nat.reduceAdd, Nat.reduceMul, Nat.reduceLT, Nat.reduceBEq, Nat.reduceLeDiff, Nat.reduceSub] -- r4
    refine ITri.ret ?_
    exact end_nil (mk := fun s => .tuple #[.agg #[.int .i64 0, .int .i64 0, s], .int .i64 3]) (mvT 0 0 3) (resF_agg 3 rfl (by kernel_rfl) (by simp -implicitDefEqProofs (disch := first | decide | exact of_eq_true (eq_true rfl) | omega | assumption) only [↓vcD, vcE, ↓vcG, vcF, evs, evP, evB, intsOf, fillC, Value.cells, pt, Value.oneCell', reduceIte, reduceCtorEq, Nat.reduceEqDiff, Nat.reduceAdd, Nat.reduceMul, Nat.reduceLT, Nat.reduceBEq, Nat.reduceLeDiff, Nat.reduceSub]) (resF_tmp rfl resF_nil)) rfl
  · have g2 : 3 < q := by rcases inT_no hq with h | h <;> omega
    refine ITri.reg pok ?_; simp -implicitDefEqProofs (disch := first | decide | exact of_eq_true (eq_true rfl) | omega | assumption) only [g, g2, decide_true, decide_false,  ↓vcD, vcE, ↓vcG, vcF, evs, evP, evB, intsOf, fillC, Value.cells, pt, Value.oneCell', reduceIte, reduceCtorEq, Nat.reduceEqDiff, Nat.reduceAdd, Nat.reduceMul, Nat.reduceLT, Nat.reduceBEq, Nat.reduceLeDiff, Nat.reduceSub]
    refine ITri.cond (v := true) rfl (fun _ => ?_) (fun h => by cases h)
    refine ITri.seq ?_
    refine ITri.reg pok ?_; simp -implicitDefEqProofs (disch := first | decide | exact of_eq_true (eq_true rfl) | omega | assumption) only [ ↓vcD, vcE, ↓vcG, vcF, evs, evP, evB, intsOf, fillC, Value.cells, pt, Value.oneCell', reduceIte, reduceCtorEq, Nat.reduceEqDiff, Nat.reduceAdd, Nat.reduceMul, Nat.reduceLT, Nat.reduceBEq, Nat.reduceLeDiff, Nat.reduceSub] -- r4
    refine ITri.ret ?_
    exact end_nil (mk := fun s => .tuple #[.agg #[.int .i64 0, .int .i64 0, s], .int .i64 3]) (mvT 0 0 3) (resF_agg 3 rfl (by kernel_rfl) (by simp -implicitDefEqProofs (disch := first | decide | exact of_eq_true (eq_true rfl) | omega | assumption) only [↓vcD, vcE, ↓vcG, vcF, evs, evP, evB, intsOf, fillC, Value.cells, pt, Value.oneCell', reduceIte, reduceCtorEq, Nat.reduceEqDiff, Nat.reduceAdd, Nat.reduceMul, Nat.reduceLT, Nat.reduceBEq, Nat.reduceLeDiff, Nat.reduceSub]) (resF_tmp rfl resF_nil)) rfl
abbrev resB : Option AObj := some (.cells ⟨[.int .i64 0, .int .i64 0, .slice none 0 0], 1, false⟩)
abbrev boxM (W H : Int) (s : Value) : Option AObj := some (.cells ⟨[.int .i64 W, .int .i64 H, s], 1, false⟩)
abbrev srcB (us : List Int) : Option AObj := some (.cells ⟨rows eN us, 0, false⟩)
abbrev rowB (zs : List Int) : Option AObj := some (.cells ⟨rows eN zs, 1, true⟩)
/-- One turn to the right. -/
theorem turn1_a {n c w h : Nat} {q j : Int} {us zs : List Int} {Q : AEx → Fr → List Nat → AH → Prop} (hy : us.length = n) (hwh : n = w * h) (hw : 1 ≤ w) (hw2 : w ≤ 60) (hh : 1 ≤ h) (hh2 : h ≤ 60) (hn : n ≤ 3600)
    (q0 : Q .normal [(1, .int .i64 q), (2, .pointer (some ⟨2, 0, none⟩)), (4, .pointer (some ⟨3, 0, none⟩)), (6, .int .i64 j)] [] (Hp 2 [none, srcB us, boxM h w (sO 4 n), resB, rowB (rotF w h us w)])) :
    ITri Tryd.prog 61 none 2 ir58_27 [(1, .int .i64 q), (2, .pointer (some ⟨2, 0, none⟩)), (4, .pointer (some ⟨3, 0, none⟩)), (6, .int .i64 j)] [] (Hp 2 [none, srcB us, boxM w h (s1 n c), resB, rowB zs]) Q := by
  refine ITri.block ?_ -- 1
  refine ITri.cut (fun _ : Unit => [(1, .int .i64 q), (2, .pointer (some ⟨2, 0, none⟩)), (4, .pointer (some ⟨3, 0, none⟩)), (6, .int .i64 j)]) (fun _ => []) (fun _ => Hp 2 [none, srcB us, boxM h w (sO 4 n), resB, rowB (rotF w h us w)]) (fun _ => True) ?_ (fun _ _ => q0)
  refine ITri.seq ?_
  refine ITri.reg pok ?_; simp -implicitDefEqProofs (disch := first | decide | exact of_eq_true (eq_true rfl) | omega | assumption) only [ ↓vcD, vcE, ↓vcG, vcF, evs, evP, evB, intsOf, fillC, Value.cells, pt, Value.oneCell', reduceIte, reduceCtorEq, Nat.reduceEqDiff, Nat.reduceAdd, Nat.reduceMul, Nat.reduceLT, Nat.reduceBEq, Nat.reduceLeDiff, Nat.reduceSub] -- r8 ref.go:404
  refine ITri.seq ?_
  refine ITri.seq ?_
  refine ITri.reg pok ?_; simp -implicitDefEqProofs (disch := first | decide | exact of_eq_true (eq_true rfl) | omega | assumption) only [ ↓vcD, vcE, ↓vcG, vcF, evs, evP, evB, intsOf, fillC, Value.cells, pt, Value.oneCell', reduceIte, reduceCtorEq, Nat.reduceEqDiff, Nat.reduceAdd, Nat.reduceMul, Nat.reduceLT, Nat.reduceBEq, Nat.reduceLeDiff, Nat.reduceSub] -- r9 ref.go:405
  refine ITri.block ?_ -- 2
  have z0 : rows eN (rotF w h us 0) = [] := rfl
  refine ITri.loop (fun x : Nat => [(1, .int .i64 q), (2, .pointer (some ⟨2, 0, none⟩)), (4, .pointer (some ⟨3, 0, none⟩)), (6, .int .i64 j), (7, .pointer (some ⟨5, 0, none⟩)), (8, .int .i64 x)]) (fun _ => []) (fun x => Hp 2 [none, srcB us, boxM w h (s1 n c), resB, rowB zs, boxM h w (sO 6 (x * h)), rowB (rotF w h us x)]) (fun x => x ≤ w) (fun x => w - x) 0 (by omega) (Wk.gc [0, 1, 2, 3, 4, 5, 6] [(6, .nil)] (of_decide_eq_true rfl) (of_decide_eq_true rfl) rfl rfl (of_decide_eq_true rfl) rfl rfl (by repeat (first | exact xiOK_nil | refine xiOK_cons (by first | trivial | exact roomOK _ (by decide)) ?_)) rfl (by simp -implicitDefEqProofs (disch := first | decide | exact of_eq_true (eq_true rfl) | omega | assumption) only [z0, objOK, sgL, xiL, objAt, nilO, OM, mvL, mv, mvS, okS, okP, mvL_rows, okML, okM, okML_rows, List.getElem?_cons_zero, Option.getD_some, implies_true, imp_self, ne_eq, and_self, true_or, or_true, Nat.zero_mul, Nat.sub_self, openB_self, ↓vcD, vcE, ↓vcG, vcF, evs, evP, evB, intsOf, fillC, Value.cells, pt, Value.oneCell', reduceIte, reduceCtorEq, Nat.reduceEqDiff, Nat.reduceAdd, Nat.reduceMul, Nat.reduceLT, Nat.reduceBEq, Nat.reduceLeDiff, Nat.reduceSub]) (by simp -implicitDefEqProofs (disch := first | decide | exact of_eq_true (eq_true rfl) | omega | assumption) only [z0, valOK, sgL, xiL, mv, mvA, mvL, mvS, okS, okP, okM, okMA, okML, Option.getD_some, implies_true, and_self, true_or, or_true, Int.natCast_add, Int.cast_ofNat_Int, Nat.zero_mul, Nat.sub_self, openB_self, ↓vcD, vcE, ↓vcG, vcF, evs, evP, evB, intsOf, fillC, Value.cells, pt, Value.oneCell', reduceIte, reduceCtorEq, Nat.reduceEqDiff, Nat.reduceAdd, Nat.reduceMul, Nat.reduceLT, Nat.reduceBEq, Nat.reduceLeDiff, Nat.reduceSub]) (fun _ h => by cases h) ⟨rfl, fun _ h => by cases h⟩) fun x hx => ?_
  refine ITri.seq ?_
  refine ITri.seq ?_
  refine ITri.reg pok ?_; simp -implicitDefEqProofs (disch := first | decide | exact of_eq_true (eq_true rfl) | omega | assumption) only [ ↓vcD, vcE, ↓vcG, vcF, evs, evP, evB, intsOf, fillC, Value.cells, pt, Value.oneCell', reduceIte, reduceCtorEq, Nat.reduceEqDiff, Nat.reduceAdd, Nat.reduceMul, Nat.reduceLT, Nat.reduceBEq, Nat.reduceLeDiff, Nat.reduceSub] -- r10 ref.go:405
  refine ITri.condD (by rfl) (fun h6 => ?_) (fun h6 => ?_) -- %34
  · have hxw : x < w := by omega
    have hbig : x * h + h ≤ n := by rw [hwh, ← Nat.succ_mul]; exact Nat.mul_le_mul_right _ hxw
    refine ITri.skip ?_; simp only [SeqQ_normal, BlkQ_normal]
    refine ITri.seq ?_
    refine ITri.block ?_ -- 3
    refine ITri.seq ?_
    refine ITri.reg pok ?_; simp -implicitDefEqProofs (disch := first | decide | exact of_eq_true (eq_true rfl) | omega | assumption) only [ ↓vcD, vcE, ↓vcG, vcF, evs, evP, evB, intsOf, fillC, Value.cells, pt, Value.oneCell', reduceIte, reduceCtorEq, Nat.reduceEqDiff, Nat.reduceAdd, Nat.reduceMul, Nat.reduceLT, Nat.reduceBEq, Nat.reduceLeDiff, Nat.reduceSub] -- r12 ref.go:406
    refine ITri.block ?_ -- 4
    have l0 : x * h = (rotF w h us x ++ colF w h x us 0).length := by rw [colF, List.append_nil, rot_len]
    have c0 : rotF w h us x = rotF w h us x ++ colF w h x us 0 := (List.append_nil _).symm
    have j0 : ((h : Int) - 1) = (h : Int) - 1 - ((0 : Nat) : Int) := by omega
    rw [c0, l0, j0]
    refine ITri.loop (fun i : Nat => [(1, .int .i64 q), (2, .pointer (some ⟨2, 0, none⟩)), (4, .pointer (some ⟨3, 0, none⟩)), (6, .int .i64 j), (7, .pointer (some ⟨5, 0, none⟩)), (8, .int .i64 x), (9, .int .i64 ((h : Int) - 1 - (i : Nat)))]) (fun _ => []) (fun i => Hp 2 [none, srcB us, boxM w h (s1 n c), resB, rowB zs, boxM h w (sO 6 (rotF w h us x ++ colF w h x us i).length), rowB (rotF w h us x ++ colF w h x us i)]) (fun i => i ≤ h) (fun i => h - i) 0 (by omega) (Wk.sub ⟨rfl, rfl, rfl, rfl, rfl, rfl, rfl, trivial⟩) fun i hi => ?_
    refine ITri.seq ?_
    refine ITri.seq ?_
    refine ITri.reg pok ?_; simp -implicitDefEqProofs (disch := first | decide | exact of_eq_true (eq_true rfl) | omega | assumption) only [ ↓vcD, vcE, ↓vcG, vcF, evs, evP, evB, intsOf, fillC, Value.cells, pt, Value.oneCell', reduceIte, reduceCtorEq, Nat.reduceEqDiff, Nat.reduceAdd, Nat.reduceMul, Nat.reduceLT, Nat.reduceBEq, Nat.reduceLeDiff, Nat.reduceSub] -- r13 ref.go:406
    refine ITri.condD (by rfl) (fun h8 => ?_) (fun h8 => ?_) -- %41
    · have hih : i < h := by omega
      have hidx : (h - 1 - i) * w + x < n := by
        have : (h - 1 - i) * w + w ≤ h * w := by rw [← Nat.succ_mul]; exact Nat.mul_le_mul_right _ (by omega)
        rw [hwh, Nat.mul_comm w h]
        omega
      have gk := getN (xs := us) (i := (h - 1 - i) * w + x) (by omega)
      have e0 : ((h : Int) - 1 - (i : Int)) = ((h - 1 - i : Nat) : Int) := by omega
      have e1 : ((h : Int) - 1 - (i : Int)) * (w : Int) = (((h - 1 - i) * w : Nat) : Int) := by rw [e0]; simp
      have e2 : (((h - 1 - i) * w : Nat) : Int) + (x : Int) = (((h - 1 - i) * w + x : Nat) : Int) := by simp
      have hlen : (rotF w h us x ++ colF w h x us i).length = x * h + i := by rw [List.length_append, rot_len, col_len]
      have hl : (rows eN (rotF w h us x ++ colF w h x us i)).length = (rotF w h us x ++ colF w h x us i).length * 1 := by rw [rows_len]
      have hs1 : rows eN (rotF w h us x ++ colF w h x us i) ++ [Value.int .i64 (nth us ((h - 1 - i) * w + x))] = rows eN (rotF w h us x ++ colF w h x us (i + 1)) := by
        rw [colF, ← List.append_assoc, rows_append (rotF w h us x ++ colF w h x us i), rows_one]
      have hs2 : (rotF w h us x ++ colF w h x us i).length + 1 = (rotF w h us x ++ colF w h x us (i + 1)).length := by rw [hlen, List.length_append, rot_len, col_len]; omega
      have hi1 : ((h : Int) - 1 - (i : Int)) - 1 = (h : Int) - 1 - ((i + 1 : Nat) : Int) := by omega
      generalize (h - 1 - i) * w = ww at *
      generalize hR0 : rotF w h us x ++ colF w h x us i = R0 at *
      generalize hR1 : rotF w h us x ++ colF w h x us (i + 1) = R1 at *
      refine ITri.skip ?_; simp only [SeqQ_normal, BlkQ_normal]
      refine ITri.seq ?_
      refine ITri.block ?_ -- 5
      refine ITri.draw pok ?_; simp -implicitDefEqProofs (disch := first | decide | exact of_eq_true (eq_true rfl) | omega | assumption) only [e1, e2, gk, hl,  ↓vcD, vcE, ↓vcG, vcF, evs, evP, evB, intsOf, fillC, Value.cells, pt, Value.oneCell', reduceIte, reduceCtorEq, Nat.reduceEqDiff, Nat.reduceAdd, Nat.reduceMul, Nat.reduceLT, Nat.reduceBEq, Nat.reduceLeDiff, Nat.reduceSub] -- r15 ref.go:407
      rw [hs1, hs2]
      refine ITri.reg pok ?_; simp -implicitDefEqProofs (disch := first | decide | exact of_eq_true (eq_true rfl) | omega | assumption) only [hi1,  ↓vcD, vcE, ↓vcG, vcF, evs, evP, evB, intsOf, fillC, Value.cells, pt, Value.oneCell', reduceIte, reduceCtorEq, Nat.reduceEqDiff, Nat.reduceAdd, Nat.reduceMul, Nat.reduceLT, Nat.reduceBEq, Nat.reduceLeDiff, Nat.reduceSub] -- r14 ref.go:406
      refine LoopQ.next (i + 1) (by omega) (by omega) ?_
      simp only [hR1]
      exact Wk.gc [0, 1, 2, 3, 4, 5, 8] [] (of_decide_eq_true rfl) (of_decide_eq_true rfl) rfl rfl (of_decide_eq_true rfl) rfl rfl (fun _ h => by cases h) rfl (by simp -implicitDefEqProofs (disch := first | decide | exact of_eq_true (eq_true rfl) | omega | assumption) only [objOK, sgL, xiL, objAt, nilO, OM, mvL, mv, mvS, okS, okP, mvL_rows, okML, okM, okML_rows, List.getElem?_cons_zero, Option.getD_some, implies_true, imp_self, ne_eq, and_self, ↓vcD, vcE, ↓vcG, vcF, evs, evP, evB, intsOf, fillC, Value.cells, pt, Value.oneCell', reduceIte, reduceCtorEq, Nat.reduceEqDiff, Nat.reduceAdd, Nat.reduceMul, Nat.reduceLT, Nat.reduceBEq, Nat.reduceLeDiff, Nat.reduceSub]) (by simp -implicitDefEqProofs (disch := first | decide | exact of_eq_true (eq_true rfl) | omega | assumption) only [ valOK, sgL, xiL, mv, mvA, mvL, mvS, okS, okP, okM, okMA, okML, Option.getD_some, implies_true, and_self, Int.natCast_add, Int.cast_ofNat_Int, ↓vcD, vcE, ↓vcG, vcF, evs, evP, evB, intsOf, fillC, Value.cells, pt, Value.oneCell', reduceIte, reduceCtorEq, Nat.reduceEqDiff, Nat.reduceAdd, Nat.reduceMul, Nat.reduceLT, Nat.reduceBEq, Nat.reduceLeDiff, Nat.reduceSub]) (fun _ h => by cases h) ⟨rfl, fun _ h => by cases h⟩
    refine ITri.exit ?_; try simp -implicitDefEqProofs (disch := first | decide | exact of_eq_true (eq_true rfl) | omega | assumption) only [ ↓vcD, vcE, ↓vcG, vcF, evs, evP, evB, intsOf, fillC, Value.cells, pt, Value.oneCell', reduceIte, reduceCtorEq, Nat.reduceEqDiff, Nat.reduceAdd, Nat.reduceMul, Nat.reduceLT, Nat.reduceBEq, Nat.reduceLeDiff, Nat.reduceSub]
    obtain rfl : h = i := by omega
    have cE : rotF w h us x ++ colF w h x us h = rotF w h us (x + 1) := rfl
    have lE : (rotF w h us (x + 1)).length = (x + 1) * h := rot_len _
    have hx1 : ((x : Int) + 1) = ((x + 1 : Nat) : Int) := by omega
    rw [cE, lE]
    refine ITri.reg pok ?_; simp -implicitDefEqProofs (disch := first | decide | exact of_eq_true (eq_true rfl) | omega | assumption) only [hx1,  ↓vcD, vcE, ↓vcG, vcF, evs, evP, evB, intsOf, fillC, Value.cells, pt, Value.oneCell', reduceIte, reduceCtorEq, Nat.reduceEqDiff, Nat.reduceAdd, Nat.reduceMul, Nat.reduceLT, Nat.reduceBEq, Nat.reduceLeDiff, Nat.reduceSub] -- r11 ref.go:405
    exact LoopQ.next (x + 1) (by omega) (by omega) (Wk.sub ⟨rfl, rfl, rfl, rfl, rfl, rfl, trivial⟩)
  refine ITri.exit ?_; try simp -implicitDefEqProofs (disch := first | decide | exact of_eq_true (eq_true rfl) | omega | assumption) only [ ↓vcD, vcE, ↓vcG, vcF, evs, evP, evB, intsOf, fillC, Value.cells, pt, Value.oneCell', reduceIte, reduceCtorEq, Nat.reduceEqDiff, Nat.reduceAdd, Nat.reduceMul, Nat.reduceLT, Nat.reduceBEq, Nat.reduceLeDiff, Nat.reduceSub]
  obtain rfl : w = x := by omega
  have hr : (rows eN (rotF w h us w)).length = n := by rw [rows_len, rot_len, hwh, Nat.mul_one]
  rw [← hwh]
  refine ITri.reg pok ?_; simp -implicitDefEqProofs (disch := first | decide | exact of_eq_true (eq_true rfl) | omega | assumption) only [ ↓vcD, vcE, ↓vcG, vcF, evs, evP, evB, intsOf, fillC, Value.cells, pt, Value.oneCell', reduceIte, reduceCtorEq, Nat.reduceEqDiff, Nat.reduceAdd, Nat.reduceMul, Nat.reduceLT, Nat.reduceBEq, Nat.reduceLeDiff, Nat.reduceSub] -- r16 ref.go:410
  exact CutQ.mk () trivial (Wk.gc [0, 1, 2, 3, 6] [] (of_decide_eq_true rfl) (of_decide_eq_true rfl) rfl rfl (of_decide_eq_true rfl) rfl rfl (by repeat (first | exact xiOK_nil | refine xiOK_cons (by first | trivial | exact roomOK _ (by decide)) ?_)) rfl (by simp -implicitDefEqProofs (disch := first | decide | exact of_eq_true (eq_true rfl) | omega | assumption) only [ objOK, sgL, xiL, objAt, nilO, OM, mvL, mv, mvS, okS, okP, mvL_rows, okML, okM, okML_rows, List.getElem?_cons_zero, Option.getD_some, implies_true, imp_self, ne_eq, and_self, true_or, or_true, Nat.zero_mul, Nat.sub_self, openB_self, ↓vcD, vcE, ↓vcG, vcF, evs, evP, evB, intsOf, fillC, Value.cells, pt, Value.oneCell', reduceIte, reduceCtorEq, Nat.reduceEqDiff, Nat.reduceAdd, Nat.reduceMul, Nat.reduceLT, Nat.reduceBEq, Nat.reduceLeDiff, Nat.reduceSub]) (by simp -implicitDefEqProofs (disch := first | decide | exact of_eq_true (eq_true rfl) | omega | assumption) only [ valOK, sgL, xiL, mv, mvA, mvL, mvS, okS, okP, okM, okMA, okML, Option.getD_some, implies_true, and_self, true_or, or_true, Int.natCast_add, Int.cast_ofNat_Int, Nat.zero_mul, Nat.sub_self, openB_self, ↓vcD, vcE, ↓vcG, vcF, evs, evP, evB, intsOf, fillC, Value.cells, pt, Value.oneCell', reduceIte, reduceCtorEq, Nat.reduceEqDiff, Nat.reduceAdd, Nat.reduceMul, Nat.reduceLT, Nat.reduceBEq, Nat.reduceLeDiff, Nat.reduceSub]) (fun _ h => by cases h) ⟨rfl, fun _ h => by cases h⟩)
/-- One turn to the right. -/
theorem turn1_b {n w h : Nat} {q j : Int} {us zs : List Int} {Q : AEx → Fr → List Nat → AH → Prop} (hy : zs.length = n) (hwh : n = w * h) (hw : 1 ≤ w) (hw2 : w ≤ 60) (hh : 1 ≤ h) (hh2 : h ≤ 60) (hn : n ≤ 3600)
    (q0 : Q .normal [(1, .int .i64 q), (2, .pointer (some ⟨2, 0, none⟩)), (4, .pointer (some ⟨3, 0, none⟩)), (6, .int .i64 j)] [] (Hp 2 [none, srcB us, boxM h w (sO 4 n), resB, rowB (rotF w h zs w)])) :
    ITri Tryd.prog 61 none 2 ir58_27 [(1, .int .i64 q), (2, .pointer (some ⟨2, 0, none⟩)), (4, .pointer (some ⟨3, 0, none⟩)), (6, .int .i64 j)] [] (Hp 2 [none, srcB us, boxM w h (sO 4 n), resB, rowB zs]) Q := by
  refine ITri.block ?_ -- 1
  refine ITri.cut (fun _ : Unit => [(1, .int .i64 q), (2, .pointer (some ⟨2, 0, none⟩)), (4, .pointer (some ⟨3, 0, none⟩)), (6, .int .i64 j)]) (fun _ => []) (fun _ => Hp 2 [none, srcB us, boxM h w (sO 4 n), resB, rowB (rotF w h zs w)]) (fun _ => True) ?_ (fun _ _ => q0)
  refine ITri.seq ?_
  refine ITri.reg pok ?_; simp -implicitDefEqProofs (disch := first | decide | exact of_eq_true (eq_true rfl) | omega | assumption) only [ ↓vcD, vcE, ↓vcG, vcF, evs, evP, evB, intsOf, fillC, Value.cells, pt, Value.oneCell', reduceIte, reduceCtorEq, Nat.reduceEqDiff, Nat.reduceAdd, Nat.reduceMul, Nat.reduceLT, Nat.reduceBEq, Nat.reduceLeDiff, Nat.reduceSub] -- r8 ref.go:404
  refine ITri.seq ?_
  refine ITri.seq ?_
  refine ITri.reg pok ?_; simp -implicitDefEqProofs (disch := first | decide | exact of_eq_true (eq_true rfl) | omega | assumption) only [ ↓vcD, vcE, ↓vcG, vcF, evs, evP, evB, intsOf, fillC, Value.cells, pt, Value.oneCell', reduceIte, reduceCtorEq, Nat.reduceEqDiff, Nat.reduceAdd, Nat.reduceMul, Nat.reduceLT, Nat.reduceBEq, Nat.reduceLeDiff, Nat.reduceSub] -- r9 ref.go:405
  refine ITri.block ?_ -- 2
  have z0 : rows eN (rotF w h zs 0) = [] := rfl
  refine ITri.loop (fun x : Nat => [(1, .int .i64 q), (2, .pointer (some ⟨2, 0, none⟩)), (4, .pointer (some ⟨3, 0, none⟩)), (6, .int .i64 j), (7, .pointer (some ⟨5, 0, none⟩)), (8, .int .i64 x)]) (fun _ => []) (fun x => Hp 2 [none, srcB us, boxM w h (sO 4 n), resB, rowB zs, boxM h w (sO 6 (x * h)), rowB (rotF w h zs x)]) (fun x => x ≤ w) (fun x => w - x) 0 (by omega) (Wk.gc [0, 1, 2, 3, 4, 5, 6] [(6, .nil)] (of_decide_eq_true rfl) (of_decide_eq_true rfl) rfl rfl (of_decide_eq_true rfl) rfl rfl (by repeat (first | exact xiOK_nil | refine xiOK_cons (by first | trivial | exact roomOK _ (by decide)) ?_)) rfl (by simp -implicitDefEqProofs (disch := first | decide | exact of_eq_true (eq_true rfl) | omega | assumption) only [z0, objOK, sgL, xiL, objAt, nilO, OM, mvL, mv, mvS, okS, okP, mvL_rows, okML, okM, okML_rows, List.getElem?_cons_zero, Option.getD_some, implies_true, imp_self, ne_eq, and_self, true_or, or_true, Nat.zero_mul, Nat.sub_self, openB_self, ↓vcD, vcE, ↓vcG, vcF, evs, evP, evB, intsOf, fillC, Value.cells, pt, Value.oneCell', reduceIte, reduceCtorEq, Nat.reduceEqDiff, Nat.reduceAdd, Nat.reduceMul, Nat.reduceLT, Nat.reduceBEq, Nat.reduceLeDiff, Nat.reduceSub]) (by simp -implicitDefEqProofs (disch := first | decide | exact of_eq_true (eq_true rfl) | omega | assumption) only [z0, valOK, sgL, xiL, mv, mvA, mvL, mvS, okS, okP, okM, okMA, okML, Option.getD_some, implies_true, and_self, true_or, or_true, Int.natCast_add, Int.cast_ofNat_Int, Nat.zero_mul, Nat.sub_self, openB_self, ↓vcD, vcE, ↓vcG, vcF, evs, evP, evB, intsOf, fillC, Value.cells, pt, Value.oneCell', reduceIte, reduceCtorEq, Nat.reduceEqDiff, Nat.reduceAdd, Nat.reduceMul, Nat.reduceLT, Nat.reduceBEq, Nat.reduceLeDiff, Nat.reduceSub]) (fun _ h => by cases h) ⟨rfl, fun _ h => by cases h⟩) fun x hx => ?_
  refine ITri.seq ?_
  refine ITri.seq ?_
  refine ITri.reg pok ?_; simp -implicitDefEqProofs (disch := first | decide | exact of_eq_true (eq_true rfl) | omega | assumption) only [ ↓vcD, vcE, ↓vcG, vcF, evs, evP, evB, intsOf, fillC, Value.cells, pt, Value.oneCell', reduceIte, reduceCtorEq, Nat.reduceEqDiff, Nat.reduceAdd, Nat.reduceMul, Nat.reduceLT, Nat.reduceBEq, Nat.reduceLeDiff, Nat.reduceSub] -- r10 ref.go:405
  refine ITri.condD (by rfl) (fun h6 => ?_) (fun h6 => ?_) -- %34
  · have hxw : x < w := by omega
    have hbig : x * h + h ≤ n := by rw [hwh, ← Nat.succ_mul]; exact Nat.mul_le_mul_right _ hxw
    refine ITri.skip ?_; simp only [SeqQ_normal, BlkQ_normal]
    refine ITri.seq ?_
    refine ITri.block ?_ -- 3
    refine ITri.seq ?_
    refine ITri.reg pok ?_; simp -implicitDefEqProofs (disch := first | decide | exact of_eq_true (eq_true rfl) | omega | assumption) only [ ↓vcD, vcE, ↓vcG, vcF, evs, evP, evB, intsOf, fillC, Value.cells, pt, Value.oneCell', reduceIte, reduceCtorEq, Nat.reduceEqDiff, Nat.reduceAdd, Nat.reduceMul, Nat.reduceLT, Nat.reduceBEq, Nat.reduceLeDiff, Nat.reduceSub] -- r12 ref.go:406
    refine ITri.block ?_ -- 4
    have l0 : x * h = (rotF w h zs x ++ colF w h x zs 0).length := by rw [colF, List.append_nil, rot_len]
    have c0 : rotF w h zs x = rotF w h zs x ++ colF w h x zs 0 := (List.append_nil _).symm
    have j0 : ((h : Int) - 1) = (h : Int) - 1 - ((0 : Nat) : Int) := by omega
    rw [c0, l0, j0]
    refine ITri.loop (fun i : Nat => [(1, .int .i64 q), (2, .pointer (some ⟨2, 0, none⟩)), (4, .pointer (some ⟨3, 0, none⟩)), (6, .int .i64 j), (7, .pointer (some ⟨5, 0, none⟩)), (8, .int .i64 x), (9, .int .i64 ((h : Int) - 1 - (i : Nat)))]) (fun _ => []) (fun i => Hp 2 [none, srcB us, boxM w h (sO 4 n), resB, rowB zs, boxM h w (sO 6 (rotF w h zs x ++ colF w h x zs i).length), rowB (rotF w h zs x ++ colF w h x zs i)]) (fun i => i ≤ h) (fun i => h - i) 0 (by omega) (Wk.sub ⟨rfl, rfl, rfl, rfl, rfl, rfl, rfl, trivial⟩) fun i hi => ?_
    refine ITri.seq ?_
    refine ITri.seq ?_
    refine ITri.reg pok ?_; simp -implicitDefEqProofs (disch := first | decide | exact of_eq_true (eq_true rfl) | omega | assumption) only [ ↓vcD, vcE, ↓vcG, vcF, evs, evP, evB, intsOf, fillC, Value.cells, pt, Value.oneCell', reduceIte, reduceCtorEq, Nat.reduceEqDiff, Nat.reduceAdd, Nat.reduceMul, Nat.reduceLT, Nat.reduceBEq, Nat.reduceLeDiff, Nat.reduceSub] -- r13 ref.go:406
    refine ITri.condD (by rfl) (fun h8 => ?_) (fun h8 => ?_) -- %41
    · have hih : i < h := by omega
      have hidx : (h - 1 - i) * w + x < n := by
        have : (h - 1 - i) * w + w ≤ h * w := by rw [← Nat.succ_mul]; exact Nat.mul_le_mul_right _ (by omega)
        rw [hwh, Nat.mul_comm w h]
        omega
      have gk := getN (xs := zs) (i := (h - 1 - i) * w + x) (by omega)
      have e0 : ((h : Int) - 1 - (i : Int)) = ((h - 1 - i : Nat) : Int) := by omega
      have e1 : ((h : Int) - 1 - (i : Int)) * (w : Int) = (((h - 1 - i) * w : Nat) : Int) := by rw [e0]; simp
      have e2 : (((h - 1 - i) * w : Nat) : Int) + (x : Int) = (((h - 1 - i) * w + x : Nat) : Int) := by simp
      have hlen : (rotF w h zs x ++ colF w h x zs i).length = x * h + i := by rw [List.length_append, rot_len, col_len]
      have hl : (rows eN (rotF w h zs x ++ colF w h x zs i)).length = (rotF w h zs x ++ colF w h x zs i).length * 1 := by rw [rows_len]
      have hs1 : rows eN (rotF w h zs x ++ colF w h x zs i) ++ [Value.int .i64 (nth zs ((h - 1 - i) * w + x))] = rows eN (rotF w h zs x ++ colF w h x zs (i + 1)) := by
        rw [colF, ← List.append_assoc, rows_append (rotF w h zs x ++ colF w h x zs i), rows_one]
      have hs2 : (rotF w h zs x ++ colF w h x zs i).length + 1 = (rotF w h zs x ++ colF w h x zs (i + 1)).length := by rw [hlen, List.length_append, rot_len, col_len]; omega
      have hi1 : ((h : Int) - 1 - (i : Int)) - 1 = (h : Int) - 1 - ((i + 1 : Nat) : Int) := by omega
      generalize (h - 1 - i) * w = ww at *
      generalize hR0 : rotF w h zs x ++ colF w h x zs i = R0 at *
      generalize hR1 : rotF w h zs x ++ colF w h x zs (i + 1) = R1 at *
      refine ITri.skip ?_; simp only [SeqQ_normal, BlkQ_normal]
      refine ITri.seq ?_
      refine ITri.block ?_ -- 5
      refine ITri.draw pok ?_; simp -implicitDefEqProofs (disch := first | decide | exact of_eq_true (eq_true rfl) | omega | assumption) only [e1, e2, gk, hl,  ↓vcD, vcE, ↓vcG, vcF, evs, evP, evB, intsOf, fillC, Value.cells, pt, Value.oneCell', reduceIte, reduceCtorEq, Nat.reduceEqDiff, Nat.reduceAdd, Nat.reduceMul, Nat.reduceLT, Nat.reduceBEq, Nat.reduceLeDiff, Nat.reduceSub] -- r15 ref.go:407
      rw [hs1, hs2]
      refine ITri.reg pok ?_; simp -implicitDefEqProofs (disch := first | decide | exact of_eq_true (eq_true rfl) | omega | assumption) only [hi1,  ↓vcD, vcE, ↓vcG, vcF, evs, evP, evB, intsOf, fillC, Value.cells, pt, Value.oneCell', reduceIte, reduceCtorEq, Nat.reduceEqDiff, Nat.reduceAdd, Nat.reduceMul, Nat.reduceLT, Nat.reduceBEq, Nat.reduceLeDiff, Nat.reduceSub] -- r14 ref.go:406
      refine LoopQ.next (i + 1) (by omega) (by omega) ?_
      simp only [hR1]
      exact Wk.gc [0, 1, 2, 3, 4, 5, 8] [] (of_decide_eq_true rfl) (of_decide_eq_true rfl) rfl rfl (of_decide_eq_true rfl) rfl rfl (fun _ h => by cases h) rfl (by simp -implicitDefEqProofs (disch := first | decide | exact of_eq_true (eq_true rfl) | omega | assumption) only [objOK, sgL, xiL, objAt, nilO, OM, mvL, mv, mvS, okS, okP, mvL_rows, okML, okM, okML_rows, List.getElem?_cons_zero, Option.getD_some, implies_true, imp_self, ne_eq, and_self, ↓vcD, vcE, ↓vcG, vcF, evs, evP, evB, intsOf, fillC, Value.cells, pt, Value.oneCell', reduceIte, reduceCtorEq, Nat.reduceEqDiff, Nat.reduceAdd, Nat.reduceMul, Nat.reduceLT, Nat.reduceBEq, Nat.reduceLeDiff, Nat.reduceSub]) (by simp -implicitDefEqProofs (disch := first | decide | exact of_eq_true (eq_true rfl) | omega | assumption) only [ valOK, sgL, xiL, mv, mvA, mvL, mvS, okS, okP, okM, okMA, okML, Option.getD_some, implies_true, and_self, Int.natCast_add, Int.cast_ofNat_Int, ↓vcD, vcE, ↓vcG, vcF, evs, evP, evB, intsOf, fillC, Value.cells, pt, Value.oneCell', reduceIte, reduceCtorEq, Nat.reduceEqDiff, Nat.reduceAdd, Nat.reduceMul, Nat.reduceLT, Nat.reduceBEq, Nat.reduceLeDiff, Nat.reduceSub]) (fun _ h => by cases h) ⟨rfl, fun _ h => by cases h⟩
    refine ITri.exit ?_; try simp -implicitDefEqProofs (disch := first | decide | exact of_eq_true (eq_true rfl) | omega | assumption) only [ ↓vcD, vcE, ↓vcG, vcF, evs, evP, evB, intsOf, fillC, Value.cells, pt, Value.oneCell', reduceIte, reduceCtorEq, Nat.reduceEqDiff, Nat.reduceAdd, Nat.reduceMul, Nat.reduceLT, Nat.reduceBEq, Nat.reduceLeDiff, Nat.reduceSub]
    obtain rfl : h = i := by omega
    have cE : rotF w h zs x ++ colF w h x zs h = rotF w h zs (x + 1) := rfl
    have lE : (rotF w h zs (x + 1)).length = (x + 1) * h := rot_len _
    have hx1 : ((x : Int) + 1) = ((x + 1 : Nat) : Int) := by omega
    rw [cE, lE]
    refine ITri.reg pok ?_; simp -implicitDefEqProofs (disch := first | decide | exact of_eq_true (eq_true rfl) | omega | assumption) only [hx1,  ↓vcD, vcE, ↓vcG, vcF, evs, evP, evB, intsOf, fillC, Value.cells, pt, Value.oneCell', reduceIte, reduceCtorEq, Nat.reduceEqDiff, Nat.reduceAdd, Nat.reduceMul, Nat.reduceLT, Nat.reduceBEq, Nat.reduceLeDiff, Nat.reduceSub] -- r11 ref.go:405
    exact LoopQ.next (x + 1) (by omega) (by omega) (Wk.sub ⟨rfl, rfl, rfl, rfl, rfl, rfl, trivial⟩)
  refine ITri.exit ?_; try simp -implicitDefEqProofs (disch := first | decide | exact of_eq_true (eq_true rfl) | omega | assumption) only [ ↓vcD, vcE, ↓vcG, vcF, evs, evP, evB, intsOf, fillC, Value.cells, pt, Value.oneCell', reduceIte, reduceCtorEq, Nat.reduceEqDiff, Nat.reduceAdd, Nat.reduceMul, Nat.reduceLT, Nat.reduceBEq, Nat.reduceLeDiff, Nat.reduceSub]
  obtain rfl : w = x := by omega
  have hr : (rows eN (rotF w h zs w)).length = n := by rw [rows_len, rot_len, hwh, Nat.mul_one]
  rw [← hwh]
  refine ITri.reg pok ?_; simp -implicitDefEqProofs (disch := first | decide | exact of_eq_true (eq_true rfl) | omega | assumption) only [ ↓vcD, vcE, ↓vcG, vcF, evs, evP, evB, intsOf, fillC, Value.cells, pt, Value.oneCell', reduceIte, reduceCtorEq, Nat.reduceEqDiff, Nat.reduceAdd, Nat.reduceMul, Nat.reduceLT, Nat.reduceBEq, Nat.reduceLeDiff, Nat.reduceSub] -- r16 ref.go:410
  exact CutQ.mk () trivial (Wk.gc [0, 1, 2, 3, 6] [] (of_decide_eq_true rfl) (of_decide_eq_true rfl) rfl rfl (of_decide_eq_true rfl) rfl rfl (by repeat (first | exact xiOK_nil | refine xiOK_cons (by first | trivial | exact roomOK _ (by decide)) ?_)) rfl (by simp -implicitDefEqProofs (disch := first | decide | exact of_eq_true (eq_true rfl) | omega | assumption) only [ objOK, sgL, xiL, objAt, nilO, OM, mvL, mv, mvS, okS, okP, mvL_rows, okML, okM, okML_rows, List.getElem?_cons_zero, Option.getD_some, implies_true, imp_self, ne_eq, and_self, true_or, or_true, Nat.zero_mul, Nat.sub_self, openB_self, ↓vcD, vcE, ↓vcG, vcF, evs, evP, evB, intsOf, fillC, Value.cells, pt, Value.oneCell', reduceIte, reduceCtorEq, Nat.reduceEqDiff, Nat.reduceAdd, Nat.reduceMul, Nat.reduceLT, Nat.reduceBEq, Nat.reduceLeDiff, Nat.reduceSub]) (by simp -implicitDefEqProofs (disch := first | decide | exact of_eq_true (eq_true rfl) | omega | assumption) only [ valOK, sgL, xiL, mv, mvA, mvL, mvS, okS, okP, okM, okMA, okML, Option.getD_some, implies_true, and_self, true_or, or_true, Int.natCast_add, Int.cast_ofNat_Int, Nat.zero_mul, Nat.sub_self, openB_self, ↓vcD, vcE, ↓vcG, vcF, evs, evP, evB, intsOf, fillC, Value.cells, pt, Value.oneCell', reduceIte, reduceCtorEq, Nat.reduceEqDiff, Nat.reduceAdd, Nat.reduceMul, Nat.reduceLT, Nat.reduceBEq, Nat.reduceLeDiff, Nat.reduceSub]) (fun _ h => by cases h) ⟨rfl, fun _ h => by cases h⟩)
def kz (n c j : Nat) : Value := if j = 0 then s1 n c else sO 4 n
def zz (W H : Nat) (xs : List Int) (j : Nat) : List Int := if j = 0 then [] else trnF W H j xs
theorem wOf_succ {W H j : Nat} : wOf W H (j + 1) = wOf H W j := by
  unfold wOf
  rcases Nat.mod_two_eq_zero_or_one j with h | h
  · rw [if_pos (by omega), if_neg (by omega)]
  · rw [if_neg (by omega), if_pos (by omega)]
theorem wOf_bd {W H j a b : Nat} (h1 : a ≤ W) (h2 : W ≤ b) (h3 : a ≤ H) (h4 : H ≤ b) : a ≤ wOf W H j ∧ wOf W H j ≤ b := by
  unfold wOf
  split <;> omega
theorem rturn_loop (c W H q : Nat) (xs : List Int) (hW : 1 ≤ W) (hW2 : W ≤ 60) (hH : 1 ≤ H) (hH2 : H ≤ 60) (n : Nat) (hn : xs.length = n) (hWH : n = W * H) (hb : n ≤ 3600) (hq : q ≤ 3) {Q : AEx → Fr → List Nat → AH → Prop}
    (q0 : Q .normal [(1, .int .i64 q), (2, .pointer (some ⟨2, 0, none⟩)), (4, .pointer (some ⟨3, 0, none⟩))] [] (Hp 2 [none, srcB xs, boxM (wOf W H q : Nat) (wOf H W q : Nat) (kz n c q), resB, rowB (zz W H xs q)])) :
    ITri Tryd.prog 61 none 2 ir58_32 [(1, .int .i64 q), (2, .pointer (some ⟨2, 0, none⟩)), (4, .pointer (some ⟨3, 0, none⟩))] [] (Hp 2 [none, srcB xs, boxM W H (s1 n c), resB]) Q := by
  refine ITri.seq ?_
  refine ITri.reg pok ?_; simp -implicitDefEqProofs (disch := first | decide | exact of_eq_true (eq_true rfl) | omega | assumption) only [ ↓vcD, vcE, ↓vcG, vcF, evs, evP, evB, intsOf, fillC, Value.cells, pt, Value.oneCell', reduceIte, reduceCtorEq, Nat.reduceEqDiff, Nat.reduceAdd, Nat.reduceMul, Nat.reduceLT, Nat.reduceBEq, Nat.reduceLeDiff, Nat.reduceSub] -- r5 ref.go:403
  refine ITri.cut (fun _ : Unit => [(1, .int .i64 q), (2, .pointer (some ⟨2, 0, none⟩)), (4, .pointer (some ⟨3, 0, none⟩))]) (fun _ => []) (fun _ => Hp 2 [none, srcB xs, boxM (wOf W H q : Nat) (wOf H W q : Nat) (kz n c q), resB, rowB (zz W H xs q)]) (fun _ => True) ?_ (fun _ _ => q0)
  refine ITri.block ?_ -- 0
  have k0 : kz n c 0 = s1 n c := rfl
  have z0 : zz W H xs 0 = [] := rfl
  have w0 : wOf W H 0 = W := rfl
  have w1 : wOf H W 0 = H := rfl
  refine ITri.loop (fun j : Nat => [(1, .int .i64 q), (2, .pointer (some ⟨2, 0, none⟩)), (4, .pointer (some ⟨3, 0, none⟩)), (6, .int .i64 j)]) (fun _ => []) (fun j => Hp 2 [none, srcB xs, boxM (wOf W H j : Nat) (wOf H W j : Nat) (kz n c j), resB, rowB (zz W H xs j)]) (fun j => j ≤ q) (fun j => q - j) 0 (by omega) (Wk.gc [0, 1, 2, 3, 4] [(4, .nil)] (of_decide_eq_true rfl) (of_decide_eq_true rfl) rfl rfl (of_decide_eq_true rfl) rfl rfl (by repeat (first | exact xiOK_nil | refine xiOK_cons (by first | trivial | exact roomOK _ (by decide)) ?_)) rfl (by simp -implicitDefEqProofs (disch := first | decide | exact of_eq_true (eq_true rfl) | omega | assumption) only [k0, z0, w0, w1, rows_nil, objOK, sgL, xiL, objAt, nilO, OM, mvL, mv, mvS, okS, okP, mvL_rows, okML, okM, okML_rows, List.getElem?_cons_zero, Option.getD_some, implies_true, imp_self, ne_eq, and_self, true_or, or_true, Nat.zero_mul, Nat.sub_self, openB_self, ↓vcD, vcE, ↓vcG, vcF, evs, evP, evB, intsOf, fillC, Value.cells, pt, Value.oneCell', reduceIte, reduceCtorEq, Nat.reduceEqDiff, Nat.reduceAdd, Nat.reduceMul, Nat.reduceLT, Nat.reduceBEq, Nat.reduceLeDiff, Nat.reduceSub]) (by simp -implicitDefEqProofs (disch := first | decide | exact of_eq_true (eq_true rfl) | omega | assumption) only [k0, z0, w0, w1, rows_nil, valOK, sgL, xiL, mv, mvA, mvL, mvS, okS, okP, okM, okMA, okML, Option.getD_some, implies_true, and_self, true_or, or_true, Int.natCast_add, Int.cast_ofNat_Int, Nat.zero_mul, Nat.sub_self, openB_self, ↓vcD, vcE, ↓vcG, vcF, evs, evP, evB, intsOf, fillC, Value.cells, pt, Value.oneCell', reduceIte, reduceCtorEq, Nat.reduceEqDiff, Nat.reduceAdd, Nat.reduceMul, Nat.reduceLT, Nat.reduceBEq, Nat.reduceLeDiff, Nat.reduceSub]) (fun _ h => by cases h) ⟨rfl, fun _ h => by cases h⟩) fun j hj => ?_
  refine ITri.seq ?_
  refine ITri.seq ?_
  refine ITri.reg pok ?_; simp -implicitDefEqProofs (disch := first | decide | exact of_eq_true (eq_true rfl) | omega | assumption) only [ ↓vcD, vcE, ↓vcG, vcF, evs, evP, evB, intsOf, fillC, Value.cells, pt, Value.oneCell', reduceIte, reduceCtorEq, Nat.reduceEqDiff, Nat.reduceAdd, Nat.reduceMul, Nat.reduceLT, Nat.reduceBEq, Nat.reduceLeDiff, Nat.reduceSub] -- r6 ref.go:403
  refine ITri.condD (by rfl) (fun h4 => ?_) (fun h4 => ?_) -- %23
  · have hj1 : ((j : Int) + 1) = ((j + 1 : Nat) : Int) := by omega
    have e1 : wOf W H (j + 1) = wOf H W j := wOf_succ
    have e2 : wOf H W (j + 1) = wOf W H j := wOf_succ
    have ek : kz n c (j + 1) = sO 4 n := if_neg (by omega)
    have ez : zz W H xs (j + 1) = trnF W H (j + 1) xs := if_neg (by omega)
    obtain ⟨a1, a2⟩ := wOf_bd (j := j) hW hW2 hH hH2
    obtain ⟨a3, a4⟩ := wOf_bd (j := j) hH hH2 hW hW2
    have hm : n = wOf W H j * wOf H W j := by rw [wOf_mul, hWH]
    refine ITri.skip ?_; simp only [SeqQ_normal, BlkQ_normal]
    refine ITri.seq ?_
    by_cases hj0 : j = 0
    · subst hj0
      rw [z0, k0, w0, w1]
      refine ITri.weak (l' := [(1, .int .i64 q), (2, .pointer (some ⟨2, 0, none⟩)), (4, .pointer (some ⟨3, 0, none⟩)), (6, .int .i64 (0 : Nat))]) (ms' := []) (Wk.sub ⟨rfl, rfl, rfl, rfl, trivial⟩) ?_
      refine turn1_a hn hWH hW hW2 hH hH2 hb ?_
      show ITri _ _ _ _ _ _ _ _ _
      refine ITri.reg pok ?_; simp -implicitDefEqProofs (disch := first | decide | exact of_eq_true (eq_true rfl) | omega | assumption) only [hj1,  ↓vcD, vcE, ↓vcG, vcF, evs, evP, evB, intsOf, fillC, Value.cells, pt, Value.oneCell', reduceIte, reduceCtorEq, Nat.reduceEqDiff, Nat.reduceAdd, Nat.reduceMul, Nat.reduceLT, Nat.reduceBEq, Nat.reduceLeDiff, Nat.reduceSub] -- r7 ref.go:403
      refine LoopQ.next (0 + 1) (by omega) (by omega) ?_
      simp only [e1, e2, ek, ez]
      rw [w0, w1, rot_trn]
      exact (Wk.sub ⟨rfl, rfl, rfl, rfl, trivial⟩)
    · have k1 : kz n c j = sO 4 n := if_neg hj0
      have z1 : zz W H xs j = trnF W H j xs := if_neg hj0
      rw [z1, k1]
      refine ITri.weak (l' := [(1, .int .i64 q), (2, .pointer (some ⟨2, 0, none⟩)), (4, .pointer (some ⟨3, 0, none⟩)), (6, .int .i64 (j : Nat))]) (ms' := []) (Wk.sub ⟨rfl, rfl, rfl, rfl, trivial⟩) ?_
      refine turn1_b (by rw [trn_len, hWH]) hm a1 a2 a3 a4 hb ?_
      show ITri _ _ _ _ _ _ _ _ _
      refine ITri.reg pok ?_; simp -implicitDefEqProofs (disch := first | decide | exact of_eq_true (eq_true rfl) | omega | assumption) only [hj1,  ↓vcD, vcE, ↓vcG, vcF, evs, evP, evB, intsOf, fillC, Value.cells, pt, Value.oneCell', reduceIte, reduceCtorEq, Nat.reduceEqDiff, Nat.reduceAdd, Nat.reduceMul, Nat.reduceLT, Nat.reduceBEq, Nat.reduceLeDiff, Nat.reduceSub] -- r7 ref.go:403
      refine LoopQ.next (j + 1) (by omega) (by omega) ?_
      simp only [e1, e2, ek, ez]
      rw [rot_trn, trn_trn, Nat.add_comm 1 j]
      exact (Wk.sub ⟨rfl, rfl, rfl, rfl, trivial⟩)
  refine ITri.exit ?_; try simp -implicitDefEqProofs (disch := first | decide | exact of_eq_true (eq_true rfl) | omega | assumption) only [ ↓vcD, vcE, ↓vcG, vcF, evs, evP, evB, intsOf, fillC, Value.cells, pt, Value.oneCell', reduceIte, reduceCtorEq, Nat.reduceEqDiff, Nat.reduceAdd, Nat.reduceMul, Nat.reduceLT, Nat.reduceBEq, Nat.reduceLeDiff, Nat.reduceSub]
  obtain rfl : q = j := by omega
  exact CutQ.mk () trivial (Wk.sub ⟨rfl, rfl, rfl, trivial⟩)
theorem rturn_ok (c W H q : Nat) (xs : List Int) (hm : mOK W H xs = true) (hW : 1 ≤ W) (hW2 : W ≤ 60) (hH : 1 ≤ H) (hH2 : H ≤ 60) (n : Nat) (hn : xs.length = n) (hWH : n = W * H) (hb : n ≤ 3600) (hq : q ≤ 3) (hq0 : q ≠ 0) :
    Fc Tryd.prog 58 [mV 1 n c W H, .int .i64 q] (Hp 2 [none, some (.cells ⟨rows eN xs, 0, false⟩)]) (.tuple #[mV 2 n openB (wOf W H q : Nat) (wOf H W q : Nat), .int .i64 0]) ((Hp 2 [none, some (.cells ⟨rows eN xs, 0, false⟩)]).news [.cells ⟨rows eN (trnF W H q xs), 1, true⟩]) := by
  refine Fc.introR fn58 (by simp) rfl rfl ?_; simp only [argF]
  refine ITri.seq ?_
  refine ITri.reg pok ?_; simp -implicitDefEqProofs (disch := first | decide | exact of_eq_true (eq_true rfl) | omega | assumption) only [ ↓vcD, vcE, ↓vcG, vcF, evs, evP, evB, intsOf, fillC, Value.cells, pt, Value.oneCell', reduceIte, reduceCtorEq, Nat.reduceEqDiff, Nat.reduceAdd, Nat.reduceMul, Nat.reduceLT, Nat.reduceBEq, Nat.reduceLeDiff, Nat.reduceSub] -- r0 ref.go:396
  refine ITri.seq ?_
  refine ITri.seq ?_
  refine ITri.reg pok ?_; simp -implicitDefEqProofs (disch := first | decide | exact of_eq_true (eq_true rfl) | omega | assumption) only [ ↓vcD, vcE, ↓vcG, vcF, evs, evP, evB, intsOf, fillC, Value.cells, pt, Value.oneCell', reduceIte, reduceCtorEq, Nat.reduceEqDiff, Nat.reduceAdd, Nat.reduceMul, Nat.reduceLT, Nat.reduceBEq, Nat.reduceLeDiff, Nat.reduceSub] -- r1 ref.go:397 CALLS .call F39 [%10]
  refine ⟨_, _, map_f hn (by omega) (sees0 rfl (of_decide_eq_true rfl)) (get_hq rfl rfl), ?_⟩
  rw [hm]
  try simp -implicitDefEqProofs (disch := first | decide | exact of_eq_true (eq_true rfl) | omega | assumption) only [ ↓vcD, vcE, ↓vcG, vcF, evs, evP, evB, intsOf, fillC, Value.cells, pt, Value.oneCell', reduceIte, reduceCtorEq, Nat.reduceEqDiff, Nat.reduceAdd, Nat.reduceMul, Nat.reduceLT, Nat.reduceBEq, Nat.reduceLeDiff, Nat.reduceSub]
  refine ITri.cond (v := false) rfl (fun h => by cases h) (fun _ => ?_); refine ITri.skip ?_; simp only [SeqQ_normal, BlkQ_normal]
  refine ITri.seq ?_
  refine ITri.seq ?_
  have g1 : ¬ ((q : Int) < 0) := by omega
  have g2 : ¬ (3 < (q : Int)) := by omega
  refine ITri.reg pok ?_; simp -implicitDefEqProofs (disch := first | decide | exact of_eq_true (eq_true rfl) | omega | assumption) only [g1, g2, decide_false,  ↓vcD, vcE, ↓vcG, vcF, evs, evP, evB, intsOf, fillC, Value.cells, pt, Value.oneCell', reduceIte, reduceCtorEq, Nat.reduceEqDiff, Nat.reduceAdd, Nat.reduceMul, Nat.reduceLT, Nat.reduceBEq, Nat.reduceLeDiff, Nat.reduceSub]
  refine ITri.cond (v := false) rfl (fun h => by cases h) (fun _ => ?_); refine ITri.skip ?_; simp only [SeqQ_normal, BlkQ_normal]
  refine ITri.seq ?_
  refine ITri.weak (l' := [(1, .int .i64 (q : Nat)), (2, .pointer (some ⟨2, 0, none⟩)), (4, .pointer (some ⟨3, 0, none⟩))]) (ms' := []) (Wk.sub ⟨rfl, rfl, rfl, trivial⟩) ?_
  refine rturn_loop c W H q xs hW hW2 hH hH2 n hn hWH hb hq ?_
  have k1 : kz n c q = sO 4 n := if_neg hq0
  have z1 : zz W H xs q = trnF W H q xs := if_neg hq0
  rw [z1, k1]
  show ITri _ _ _ _ _ _ _ _ _
  refine ITri.seq ?_
  refine ITri.reg pok ?_; simp -implicitDefEqProofs (disch := first | decide | exact of_eq_true (eq_true rfl) | omega | assumption) only [ ↓vcD, vcE, ↓vcG, vcF, evs, evP, evB, intsOf, fillC, Value.cells, pt, Value.oneCell', reduceIte, reduceCtorEq, Nat.reduceEqDiff, Nat.reduceAdd, Nat.reduceMul, Nat.reduceLT, Nat.reduceBEq, Nat.reduceLeDiff, Nat.reduceSub] -- r17 ref.go:412
  refine ITri.ret ?_
  exact end_mk (k := 4) (n := n) (mk := fun s => .tuple #[.agg #[.int .i64 (wOf W H q : Nat), .int .i64 (wOf H W q : Nat), s], .int .i64 0]) (mvT _ _ _) (by decide) (rows_no (f := eN) _) rfl (resF_agg 3 rfl (by kernel_rfl) (by simp -implicitDefEqProofs (disch := first | decide | exact of_eq_true (eq_true rfl) | omega | assumption) only [↓vcD, vcE, ↓vcG, vcF, evs, evP, evB, intsOf, fillC, Value.cells, pt, Value.oneCell', reduceIte, reduceCtorEq, Nat.reduceEqDiff, Nat.reduceAdd, Nat.reduceMul, Nat.reduceLT, Nat.reduceBEq, Nat.reduceLeDiff, Nat.reduceSub]) (resF_tmp rfl resF_nil)) rfl
theorem rturn_0 (c W H : Nat) (xs : List Int) (hm : mOK W H xs = true) (hW : 1 ≤ W) (hW2 : W ≤ 60) (hH : 1 ≤ H) (hH2 : H ≤ 60) (n : Nat) (hn : xs.length = n) (hWH : n = W * H) (hb : n ≤ 3600) :
    Fc Tryd.prog 58 [mV 1 n c W H, .int .i64 0] (Hp 2 [none, some (.cells ⟨rows eN xs, 0, false⟩)]) (.tuple #[mV 1 n c W H, .int .i64 0]) (Hp 2 [none, some (.cells ⟨rows eN xs, 0, false⟩)]) := by
  refine Fc.intro0 fn58 (by simp) rfl rfl ?_; simp only [argF]
  refine ITri.seq ?_
  refine ITri.reg pok ?_; simp -implicitDefEqProofs (disch := first | decide | exact of_eq_true (eq_true rfl) | omega | assumption) only [ ↓vcD, vcE, ↓vcG, vcF, evs, evP, evB, intsOf, fillC, Value.cells, pt, Value.oneCell', reduceIte, reduceCtorEq, Nat.reduceEqDiff, Nat.reduceAdd, Nat.reduceMul, Nat.reduceLT, Nat.reduceBEq, Nat.reduceLeDiff, Nat.reduceSub] -- r0 ref.go:396
  refine ITri.seq ?_
  refine ITri.seq ?_
  refine ITri.reg pok ?_; simp -implicitDefEqProofs (disch := first | decide | exact of_eq_true (eq_true rfl) | omega | assumption) only [ ↓vcD, vcE, ↓vcG, vcF, evs, evP, evB, intsOf, fillC, Value.cells, pt, Value.oneCell', reduceIte, reduceCtorEq, Nat.reduceEqDiff, Nat.reduceAdd, Nat.reduceMul, Nat.reduceLT, Nat.reduceBEq, Nat.reduceLeDiff, Nat.reduceSub] -- r1 ref.go:397 CALLS .call F39 [%10]
  refine ⟨_, _, map_f hn (by omega) (sees0 rfl (of_decide_eq_true rfl)) (get_hq rfl rfl), ?_⟩
  rw [hm]
  try simp -implicitDefEqProofs (disch := first | decide | exact of_eq_true (eq_true rfl) | omega | assumption) only [ ↓vcD, vcE, ↓vcG, vcF, evs, evP, evB, intsOf, fillC, Value.cells, pt, Value.oneCell', reduceIte, reduceCtorEq, Nat.reduceEqDiff, Nat.reduceAdd, Nat.reduceMul, Nat.reduceLT, Nat.reduceBEq, Nat.reduceLeDiff, Nat.reduceSub]
  refine ITri.cond (v := false) rfl (fun h => by cases h) (fun _ => ?_); refine ITri.skip ?_; simp only [SeqQ_normal, BlkQ_normal]
  refine ITri.seq ?_
  refine ITri.seq ?_
  have g1 : ¬ ((0 : Int) < 0) := by omega
  have g2 : ¬ (3 < (0 : Int)) := by omega
  refine ITri.reg pok ?_; simp -implicitDefEqProofs (disch := first | decide | exact of_eq_true (eq_true rfl) | omega | assumption) only [g1, g2, decide_false,  ↓vcD, vcE, ↓vcG, vcF, evs, evP, evB, intsOf, fillC, Value.cells, pt, Value.oneCell', reduceIte, reduceCtorEq, Nat.reduceEqDiff, Nat.reduceAdd, Nat.reduceMul, Nat.reduceLT, Nat.reduceBEq, Nat.reduceLeDiff, Nat.reduceSub]
  refine ITri.cond (v := false) rfl (fun h => by cases h) (fun _ => ?_); refine ITri.skip ?_; simp only [SeqQ_normal, BlkQ_normal]
  refine ITri.seq ?_
  refine ITri.weak (l' := [(1, .int .i64 (0 : Nat)), (2, .pointer (some ⟨2, 0, none⟩)), (4, .pointer (some ⟨3, 0, none⟩))]) (ms' := []) (Wk.sub ⟨rfl, rfl, rfl, trivial⟩) ?_
  refine rturn_loop c W H 0 xs hW hW2 hH hH2 n hn hWH hb (by omega) ?_
  have k1 : kz n c 0 = s1 n c := rfl
  have z1 : zz W H xs 0 = [] := rfl
  have w0 : wOf W H 0 = W := rfl
  have w1 : wOf H W 0 = H := rfl
  rw [z1, k1, w0, w1]
  show ITri _ _ _ _ _ _ _ _ _
  refine ITri.seq ?_
  refine ITri.reg pok ?_; simp -implicitDefEqProofs (disch := first | decide | exact of_eq_true (eq_true rfl) | omega | assumption) only [ ↓vcD, vcE, ↓vcG, vcF, evs, evP, evB, intsOf, fillC, Value.cells, pt, Value.oneCell', reduceIte, reduceCtorEq, Nat.reduceEqDiff, Nat.reduceAdd, Nat.reduceMul, Nat.reduceLT, Nat.reduceBEq, Nat.reduceLeDiff, Nat.reduceSub] -- r17 ref.go:412
  refine ITri.ret ?_
  refine ⟨by simp, rfl, [.agg ⟨[.int .i64 W, .int .i64 H, s1 n c]⟩, .int .i64 0], [], [], resF_agg 3 rfl (by kernel_rfl) (by simp -implicitDefEqProofs (disch := first | decide | exact of_eq_true (eq_true rfl) | omega | assumption) only [↓vcD, vcE, ↓vcG, vcF, evs, evP, evB, intsOf, fillC, Value.cells, pt, Value.oneCell', reduceIte, reduceCtorEq, Nat.reduceEqDiff, Nat.reduceAdd, Nat.reduceMul, Nat.reduceLT, Nat.reduceBEq, Nat.reduceLeDiff, Nat.reduceSub]) (resF_tmp rfl resF_nil), rfl, List.nodup_nil, by simp, by simp, rfl, ?_, fun i o2 h => by simp at h⟩
  exact ⟨⟨trivial, trivial, ⟨by decide, trivial⟩, trivial⟩, trivial, trivial⟩
end Go.Proofs.YtgjokhodccacoaaDoor
