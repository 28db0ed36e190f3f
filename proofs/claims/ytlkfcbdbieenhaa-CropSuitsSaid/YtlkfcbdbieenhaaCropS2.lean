/-
  Chapter 7, suits, by names: the law's suits.
-/
import Derived.Test.YtlkfcbdbieenhaaCropS1
set_option linter.unusedSimpArgs false
set_option linter.unusedVariables false
namespace Go.Proofs.Ytlkfcbdbieenhaa
open Go.RowKit Go.Vm
set_option maxRecDepth 100000
/- boule/boulelaw07.suits · slots 36 · names 0:l 1:tolerance 2:x 3:l 4:tolerance 5:x 7:i 8:r 9:e · results [6] -/
def ir46_r0 : IC := .reg [⟨some 5, none, false, .box (.t 2)⟩,
  ⟨some 6, none, false, .mv (.k (.bool false))⟩] (some [0, 1, 5])
def ir46_r1 : IC := .reg [⟨some 7, none, false, .mv (.k (.int .i64 0))⟩] (some [0, 1, 5, 7])
def ir46_r2 : IC := .reg [⟨some 10, none, false, .mv (.t 7)⟩,
  ⟨some 11, none, false, .mv (.t 0)⟩,
  ⟨some 12, none, false, .len (.t 11)⟩,
  ⟨some 13, none, false, .cmp .lss (.t 10) (.t 12)⟩] (some [0, 1, 5, 7, 13])
def ir46_1 : IC := .cond (.t 13) .skip (.exit 0)
def ir46_2 : IC := .seq ir46_r2 ir46_1
def ir46_r4 : IC := .draw [(⟨some 17, none, false, .mv (.t 0)⟩, false, 0, 0),
  (⟨some 18, none, false, .mv (.t 7)⟩, false, 0, 0),
  (⟨some 19, none, false, .iad 4 (.t 17) (.t 18)⟩, false, 3, 0),
  (⟨some 20, none, false, .lda 4 (.t 19)⟩, false, 7, 1),
  (⟨some 21, none, false, .lda 2 (.t 5)⟩, false, 0, 8),
  (⟨some 22, none, false, .call (.f 36) [(.t 20), (.t 21)]⟩, false, 31, 1),
  (⟨some 16, none, false, .mv (.t 22)⟩, false, 63, 0),
  (⟨some 23, none, false, .ext (.t 16) 0⟩, false, 127, 0),
  (⟨some 24, none, false, .ext (.t 16) 1⟩, false, 127, 0),
  (⟨some 8, none, false, .alloc [(.int .i64 0), (.int .i64 0)]⟩, false, 0, 32),
  (⟨none, none, false, .st 2 (.t 8) (.t 23)⟩, true, 767, 1),
  (⟨some 9, none, false, .mv (.t 24)⟩, false, 2047, 0)] (some [0, 1, 5, 7, 8, 9])
def ir46_r5 : IC := .reg [⟨some 25, none, false, .mv (.t 9)⟩,
  ⟨some 26, none, false, .cmp .neq (.t 25) (.k (.int .i64 0))⟩,
  ⟨some 27, none, false, .mv (.t 26)⟩,
  ⟨some 28, some (27, false), false, .fad 1 (.t 8)⟩,
  ⟨some 29, some (27, false), false, .ldc (.t 28)⟩,
  ⟨some 30, some (27, false), false, .mv (.t 1)⟩,
  ⟨some 31, some (27, false), false, .cmp .gtr (.t 29) (.t 30)⟩,
  ⟨some 32, none, false, .pick (.t 27) (.k (.bool true)) (.t 31)⟩] (some [0, 1, 5, 7, 32])
def ir46_r6 : IC := .reg [⟨some 6, none, false, .mv (.k (.bool false))⟩] (some [6])
def ir46_3 : IC := .seq ir46_r6 .ret
def ir46_4 : IC := .cond (.t 32) ir46_3 .skip
def ir46_5 : IC := .seq ir46_r5 ir46_4
def ir46_6 : IC := .seq ir46_r4 ir46_5
def ir46_7 : IC := .block 1 ir46_6
def ir46_r3 : IC := .reg [⟨some 14, none, false, .mv (.t 7)⟩,
  ⟨some 15, none, false, .ar .add (.t 14) (.k (.int .i64 1))⟩,
  ⟨some 7, none, false, .mv (.t 15)⟩] (some [0, 1, 5, 7])
def ir46_8 : IC := .seq ir46_7 ir46_r3
def ir46_9 : IC := .seq ir46_2 ir46_8
def ir46_10 : IC := .loop ir46_9
def ir46_11 : IC := .block 0 ir46_10
def ir46_12 : IC := .seq ir46_r1 ir46_11
def ir46_r7 : IC := .reg [⟨some 33, none, false, .mv (.t 0)⟩,
  ⟨some 34, none, false, .len (.t 33)⟩,
  ⟨some 35, none, false, .cmp .gtr (.t 34) (.k (.int .i64 0))⟩,
  ⟨some 6, none, false, .mv (.t 35)⟩] (some [6])
def ir46_13 : IC := .seq ir46_r7 .ret
def ir46_14 : IC := .seq ir46_12 ir46_13
def ir46_15 : IC := .seq ir46_r0 ir46_14
def ir46 : IC := ir46_15
theorem fn46 : FnIs Try.prog 46 ir46 36 [.tmp 6] := ⟨Try.f46, Try.f46.body.getD .skip, Try.func46, by kernel_rfl, by kernel_rfl, by kernel_rfl, by kernel_rfl⟩
theorem suits_c (n c : Nat) (l : List Tl) (tol x y : Int) (hn : l.length = n) (hb : n ≤ 1000000) : Fc Try.prog 46 [sT n c, .int .i64 tol, .agg #[.int .i64 x, .int .i64 y]] (mT (rows eT l)) (.bool (sutB l tol x y)) (mT (rows eT l)) := by
  refine Fc.intro0 fn46 (by simp) rfl rfl ?_; simp only [argF]
  refine ITri.seq ?_
  refine ITri.reg pokT ?_; simp -implicitDefEqProofs (disch := first | decide | exact of_eq_true (eq_true rfl) | omega | assumption) only [ ↓vcD, vcE, evs, evP, evB, intsOf, fillC, Value.cells, pt, List.append_nil, List.nil_append, List.cons_append, List.length_cons, List.length_nil, List.filter_nil, List.map_nil, ↓List.getElem?_cons_zero, ↓List.getElem?_cons_succ, List.getElem?_cons_zero, List.getElem?_cons_succ, List.set_cons_zero, List.set_cons_succ, Option.join_some, Option.join_none, Option.map_some, List.all_cons, List.all_nil, Value.oneCell', reduceIte, reduceCtorEq, Nat.reduceEqDiff, Nat.reduceAdd, Nat.reduceMul, Nat.reduceLT, Nat.reduceBEq, Nat.reduceLeDiff, Nat.reduceSub, List.size_toArray] -- r0
  refine ITri.seq ?_
  refine ITri.seq ?_
  refine ITri.reg pokT ?_; simp -implicitDefEqProofs (disch := first | decide | exact of_eq_true (eq_true rfl) | omega | assumption) only [ ↓vcD, vcE, evs, evP, evB, intsOf, fillC, Value.cells, pt, List.append_nil, List.nil_append, List.cons_append, List.length_cons, List.length_nil, List.filter_nil, List.map_nil, ↓List.getElem?_cons_zero, ↓List.getElem?_cons_succ, List.getElem?_cons_zero, List.getElem?_cons_succ, List.set_cons_zero, List.set_cons_succ, Option.join_some, Option.join_none, Option.map_some, List.all_cons, List.all_nil, Value.oneCell', reduceIte, reduceCtorEq, Nat.reduceEqDiff, Nat.reduceAdd, Nat.reduceMul, Nat.reduceLT, Nat.reduceBEq, Nat.reduceLeDiff, Nat.reduceSub, List.size_toArray] -- r1
  refine ITri.block ?_ -- 0
  refine ITri.loop (fun k : Nat => [(0, sT n c), (1, .int .i64 tol), (5, pt 2), (7, .int .i64 k)]) (fun _ => []) (fun k => Hp 2 [none, some (.cells ⟨rows eT l, 0, false⟩), some (.cells ⟨[.int .i64 x, .int .i64 y], 1, false⟩)]) (fun k => k ≤ n ∧ ∀ j, j < k → (decide ((offF (nth l j) x y).2.2 = 0) && decide ((offF (nth l j) x y).2.1 ≤ tol)) = true) (fun k => n - k) 0 ⟨Nat.zero_le _, fun j hj => by omega⟩ (Wk.sub ⟨rfl, rfl, rfl, rfl, trivial⟩) fun k hk => ?_
  obtain ⟨hk, hj⟩ := hk
  refine ITri.seq ?_
  refine ITri.seq ?_
  refine ITri.reg pokT ?_; simp -implicitDefEqProofs (disch := first | decide | exact of_eq_true (eq_true rfl) | omega | assumption) only [ ↓vcD, vcE, evs, evP, evB, intsOf, fillC, Value.cells, pt, List.append_nil, List.nil_append, List.cons_append, List.length_cons, List.length_nil, List.filter_nil, List.map_nil, ↓List.getElem?_cons_zero, ↓List.getElem?_cons_succ, List.getElem?_cons_zero, List.getElem?_cons_succ, List.set_cons_zero, List.set_cons_succ, Option.join_some, Option.join_none, Option.map_some, List.all_cons, List.all_nil, Value.oneCell', reduceIte, reduceCtorEq, Nat.reduceEqDiff, Nat.reduceAdd, Nat.reduceMul, Nat.reduceLT, Nat.reduceBEq, Nat.reduceLeDiff, Nat.reduceSub, List.size_toArray] -- r2
  refine ITri.condD (by rfl) (fun h2 => ?_) (fun h2 => ?_) -- %13
  rotate_left
  · refine ITri.exit ?_; try simp -implicitDefEqProofs (disch := first | decide | exact of_eq_true (eq_true rfl) | omega | assumption) only [ ↓vcD, vcE, evs, evP, evB, intsOf, fillC, Value.cells, pt, List.append_nil, List.nil_append, List.cons_append, List.length_cons, List.length_nil, List.filter_nil, List.map_nil, ↓List.getElem?_cons_zero, ↓List.getElem?_cons_succ, List.getElem?_cons_zero, List.getElem?_cons_succ, List.set_cons_zero, List.set_cons_succ, Option.join_some, Option.join_none, Option.map_some, List.all_cons, List.all_nil, Value.oneCell', reduceIte, reduceCtorEq, Nat.reduceEqDiff, Nat.reduceAdd, Nat.reduceMul, Nat.reduceLT, Nat.reduceBEq, Nat.reduceLeDiff, Nat.reduceSub, List.size_toArray] -- exit 0
    refine ITri.seq ?_
    refine ITri.reg pokT ?_; simp -implicitDefEqProofs (disch := first | decide | exact of_eq_true (eq_true rfl) | omega | assumption) only [ ↓vcD, vcE, evs, evP, evB, intsOf, fillC, Value.cells, pt, List.append_nil, List.nil_append, List.cons_append, List.length_cons, List.length_nil, List.filter_nil, List.map_nil, ↓List.getElem?_cons_zero, ↓List.getElem?_cons_succ, List.getElem?_cons_zero, List.getElem?_cons_succ, List.set_cons_zero, List.set_cons_succ, Option.join_some, Option.join_none, Option.map_some, List.all_cons, List.all_nil, Value.oneCell', reduceIte, reduceCtorEq, Nat.reduceEqDiff, Nat.reduceAdd, Nat.reduceMul, Nat.reduceLT, Nat.reduceBEq, Nat.reduceLeDiff, Nat.reduceSub, List.size_toArray] -- r7
    refine ITri.ret ?_; exact EndR.plain (by simp) (by rfl) (by unfold sutB; rw [allB_yes (fun j h => hj j (by omega)), hn]; simp [packV]) (by rfl)
  have hkn : k < l.length := by omega
  refine ITri.skip ?_; simp only [SeqQ_normal, BlkQ_normal]
  refine ITri.seq ?_
  refine ITri.block ?_ -- 1
  refine ITri.seq ?_
  have e6 : ∀ x, (eT x).length = 4 := fun x => rfl
  refine ITri.draw pokT ?_; simp -implicitDefEqProofs (disch := first | decide | exact of_eq_true (eq_true rfl) | omega | assumption) only [takeT,  ↓vcD, vcE, evs, evP, evB, intsOf, fillC, Value.cells, pt, List.append_nil, List.nil_append, List.cons_append, List.length_cons, List.length_nil, List.filter_nil, List.map_nil, ↓List.getElem?_cons_zero, ↓List.getElem?_cons_succ, List.getElem?_cons_zero, List.getElem?_cons_succ, List.set_cons_zero, List.set_cons_succ, Option.join_some, Option.join_none, Option.map_some, List.all_cons, List.all_nil, Value.oneCell', reduceIte, reduceCtorEq, Nat.reduceEqDiff, Nat.reduceAdd, Nat.reduceMul, Nat.reduceLT, Nat.reduceBEq, Nat.reduceLeDiff, Nat.reduceSub, List.size_toArray] -- r4
  refine ⟨_, _, off_f (nth l k) x y (sees0 rfl (of_decide_eq_true rfl)), ?_⟩
  try simp -implicitDefEqProofs (disch := first | decide | exact of_eq_true (eq_true rfl) | omega | assumption) only [ ↓vcD, vcE, evs, evP, evB, intsOf, fillC, Value.cells, pt, List.append_nil, List.nil_append, List.cons_append, List.length_cons, List.length_nil, List.filter_nil, List.map_nil, ↓List.getElem?_cons_zero, ↓List.getElem?_cons_succ, List.getElem?_cons_zero, List.getElem?_cons_succ, List.set_cons_zero, List.set_cons_succ, Option.join_some, Option.join_none, Option.map_some, List.all_cons, List.all_nil, Value.oneCell', reduceIte, reduceCtorEq, Nat.reduceEqDiff, Nat.reduceAdd, Nat.reduceMul, Nat.reduceLT, Nat.reduceBEq, Nat.reduceLeDiff, Nat.reduceSub, List.size_toArray]
  have no : (decide ((offF (nth l k) x y).2.2 = 0) && decide ((offF (nth l k) x y).2.1 ≤ tol)) = false → sutB l tol x y = false := fun h => by
    unfold sutB
    rw [allB_not (p := fun t => decide ((offF t x y).2.2 = 0) && decide ((offF t x y).2.1 ≤ tol)) hkn h]
    rfl
  refine ITri.seq ?_
  by_cases g1 : (offF (nth l k) x y).2.2 = 0
  · by_cases g2 : tol < (offF (nth l k) x y).2.1
    · refine ITri.reg pokT ?_; simp -implicitDefEqProofs (disch := first | decide | exact of_eq_true (eq_true rfl) | omega | assumption) only [g1, g2, decide_true, decide_false,  ↓vcD, vcE, evs, evP, evB, intsOf, fillC, Value.cells, pt, List.append_nil, List.nil_append, List.cons_append, List.length_cons, List.length_nil, List.filter_nil, List.map_nil, ↓List.getElem?_cons_zero, ↓List.getElem?_cons_succ, List.getElem?_cons_zero, List.getElem?_cons_succ, List.set_cons_zero, List.set_cons_succ, Option.join_some, Option.join_none, Option.map_some, List.all_cons, List.all_nil, Value.oneCell', reduceIte, reduceCtorEq, Nat.reduceEqDiff, Nat.reduceAdd, Nat.reduceMul, Nat.reduceLT, Nat.reduceBEq, Nat.reduceLeDiff, Nat.reduceSub, List.size_toArray]
      refine ITri.cond (v := true) rfl (fun _ => ?_) (fun h => by cases h)
      refine ITri.seq ?_
      refine ITri.reg pokT ?_; simp -implicitDefEqProofs (disch := first | decide | exact of_eq_true (eq_true rfl) | omega | assumption) only [ ↓vcD, vcE, evs, evP, evB, intsOf, fillC, Value.cells, pt, List.append_nil, List.nil_append, List.cons_append, List.length_cons, List.length_nil, List.filter_nil, List.map_nil, ↓List.getElem?_cons_zero, ↓List.getElem?_cons_succ, List.getElem?_cons_zero, List.getElem?_cons_succ, List.set_cons_zero, List.set_cons_succ, Option.join_some, Option.join_none, Option.map_some, List.all_cons, List.all_nil, Value.oneCell', reduceIte, reduceCtorEq, Nat.reduceEqDiff, Nat.reduceAdd, Nat.reduceMul, Nat.reduceLT, Nat.reduceBEq, Nat.reduceLeDiff, Nat.reduceSub, List.size_toArray]
      refine ITri.ret ?_; exact EndR.plain (by simp) (by rfl) (by rw [no (by rw [decide_eq_false (show ¬ (offF (nth l k) x y).2.1 ≤ tol by omega)]; simp)]; rfl) (by rfl)
    · refine ITri.reg pokT ?_; simp -implicitDefEqProofs (disch := first | decide | exact of_eq_true (eq_true rfl) | omega | assumption) only [g1, g2, decide_true, decide_false,  ↓vcD, vcE, evs, evP, evB, intsOf, fillC, Value.cells, pt, List.append_nil, List.nil_append, List.cons_append, List.length_cons, List.length_nil, List.filter_nil, List.map_nil, ↓List.getElem?_cons_zero, ↓List.getElem?_cons_succ, List.getElem?_cons_zero, List.getElem?_cons_succ, List.set_cons_zero, List.set_cons_succ, Option.join_some, Option.join_none, Option.map_some, List.all_cons, List.all_nil, Value.oneCell', reduceIte, reduceCtorEq, Nat.reduceEqDiff, Nat.reduceAdd, Nat.reduceMul, Nat.reduceLT, Nat.reduceBEq, Nat.reduceLeDiff, Nat.reduceSub, List.size_toArray]
      refine ITri.cond (v := false) rfl (fun h => by cases h) (fun _ => ?_); refine ITri.skip ?_; simp only [SeqQ_normal, BlkQ_normal]
      refine ITri.reg pokT ?_; simp -implicitDefEqProofs (disch := first | decide | exact of_eq_true (eq_true rfl) | omega | assumption) only [ ↓vcD, vcE, evs, evP, evB, intsOf, fillC, Value.cells, pt, List.append_nil, List.nil_append, List.cons_append, List.length_cons, List.length_nil, List.filter_nil, List.map_nil, ↓List.getElem?_cons_zero, ↓List.getElem?_cons_succ, List.getElem?_cons_zero, List.getElem?_cons_succ, List.set_cons_zero, List.set_cons_succ, Option.join_some, Option.join_none, Option.map_some, List.all_cons, List.all_nil, Value.oneCell', reduceIte, reduceCtorEq, Nat.reduceEqDiff, Nat.reduceAdd, Nat.reduceMul, Nat.reduceLT, Nat.reduceBEq, Nat.reduceLeDiff, Nat.reduceSub, List.size_toArray]
      refine LoopQ.next (k + 1) ⟨by omega, fun j hj2 => ?_⟩ (by omega) (Wk.gc [0, 1, 2] [] (of_decide_eq_true rfl) (of_decide_eq_true rfl) rfl rfl (of_decide_eq_true rfl) rfl rfl (fun _ h => by cases h) rfl (by simp -implicitDefEqProofs (disch := first | decide | exact of_eq_true (eq_true rfl) | omega | assumption) only [objOK, sgL, xiL, objAt, nilO, OM, mvL, mv, mvS, okS, okP, mvL_rows, okML, okM, okML_rows, List.getElem?_cons_zero, Option.getD_some, implies_true, imp_self, ne_eq, and_self, ↓vcD, vcE, evs, evP, evB, intsOf, fillC, Value.cells, pt, List.append_nil, List.nil_append, List.cons_append, List.length_cons, List.length_nil, List.filter_nil, List.map_nil, ↓List.getElem?_cons_zero, ↓List.getElem?_cons_succ, List.getElem?_cons_zero, List.getElem?_cons_succ, List.set_cons_zero, List.set_cons_succ, Option.join_some, Option.join_none, Option.map_some, List.all_cons, List.all_nil, Value.oneCell', reduceIte, reduceCtorEq, Nat.reduceEqDiff, Nat.reduceAdd, Nat.reduceMul, Nat.reduceLT, Nat.reduceBEq, Nat.reduceLeDiff, Nat.reduceSub, List.size_toArray]) (by simp -implicitDefEqProofs (disch := first | decide | exact of_eq_true (eq_true rfl) | omega | assumption) only [ valOK, sgL, xiL, mv, mvA, mvL, mvS, okS, okP, okM, okMA, okML, Option.getD_some, implies_true, and_self, Int.natCast_add, Int.cast_ofNat_Int, ↓vcD, vcE, evs, evP, evB, intsOf, fillC, Value.cells, pt, List.append_nil, List.nil_append, List.cons_append, List.length_cons, List.length_nil, List.filter_nil, List.map_nil, ↓List.getElem?_cons_zero, ↓List.getElem?_cons_succ, List.getElem?_cons_zero, List.getElem?_cons_succ, List.set_cons_zero, List.set_cons_succ, Option.join_some, Option.join_none, Option.map_some, List.all_cons, List.all_nil, Value.oneCell', reduceIte, reduceCtorEq, Nat.reduceEqDiff, Nat.reduceAdd, Nat.reduceMul, Nat.reduceLT, Nat.reduceBEq, Nat.reduceLeDiff, Nat.reduceSub, List.size_toArray]) (fun _ h => by cases h) ⟨rfl, fun _ h => by cases h⟩)
      rcases Nat.lt_or_ge j k with q | q
      · exact hj j q
      · obtain rfl : j = k := by omega
        rw [g1, decide_eq_true (show (offF (nth l j) x y).2.1 ≤ tol by omega)]
        rfl
  · refine ITri.reg pokT ?_; simp -implicitDefEqProofs (disch := first | decide | exact of_eq_true (eq_true rfl) | omega | assumption) only [g1, decide_true, decide_false,  ↓vcD, vcE, evs, evP, evB, intsOf, fillC, Value.cells, pt, List.append_nil, List.nil_append, List.cons_append, List.length_cons, List.length_nil, List.filter_nil, List.map_nil, ↓List.getElem?_cons_zero, ↓List.getElem?_cons_succ, List.getElem?_cons_zero, List.getElem?_cons_succ, List.set_cons_zero, List.set_cons_succ, Option.join_some, Option.join_none, Option.map_some, List.all_cons, List.all_nil, Value.oneCell', reduceIte, reduceCtorEq, Nat.reduceEqDiff, Nat.reduceAdd, Nat.reduceMul, Nat.reduceLT, Nat.reduceBEq, Nat.reduceLeDiff, Nat.reduceSub, List.size_toArray]
    refine ITri.cond (v := true) rfl (fun _ => ?_) (fun h => by cases h)
    refine ITri.seq ?_
    refine ITri.reg pokT ?_; simp -implicitDefEqProofs (disch := first | decide | exact of_eq_true (eq_true rfl) | omega | assumption) only [ ↓vcD, vcE, evs, evP, evB, intsOf, fillC, Value.cells, pt, List.append_nil, List.nil_append, List.cons_append, List.length_cons, List.length_nil, List.filter_nil, List.map_nil, ↓List.getElem?_cons_zero, ↓List.getElem?_cons_succ, List.getElem?_cons_zero, List.getElem?_cons_succ, List.set_cons_zero, List.set_cons_succ, Option.join_some, Option.join_none, Option.map_some, List.all_cons, List.all_nil, Value.oneCell', reduceIte, reduceCtorEq, Nat.reduceEqDiff, Nat.reduceAdd, Nat.reduceMul, Nat.reduceLT, Nat.reduceBEq, Nat.reduceLeDiff, Nat.reduceSub, List.size_toArray]
    refine ITri.ret ?_; exact EndR.plain (by simp) (by rfl) (by rw [no (by rw [decide_eq_false g1]; rfl)]; rfl) (by rfl)
theorem suits_f (n : Nat) (l : List Tl) (tol x y : Int) (hn : l.length = n) (hb : n ≤ 1000000) {h : AH} {s : Value} (h0 : h.sees 0 = true) (r : Rd h s n (rows eT l)) :
    Fc Try.prog 46 [s, .int .i64 tol, .agg #[.int .i64 x, .int .i64 y]] h (.bool (sutB l tol x y)) h :=
  Fc.lift1 (mk := fun ss => ss ++ [.int .i64 tol, .agg #[.int .i64 x, .int .i64 y]]) (mkv := fun _ => .bool (sutB l tol x y)) (os := []) (fun c => suits_c n c l tol x y hn hb) (MkL.app rfl) (MkV.const rfl) (rows_no (f := eT) l) (fun o ho => by cases ho) h0 r
end Go.Proofs.Ytlkfcbdbieenhaa
