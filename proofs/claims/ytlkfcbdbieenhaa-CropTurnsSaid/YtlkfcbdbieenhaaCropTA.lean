/-
  Chapter 7, turns, by names: the reference's Turn tries all settings.
-/
import Derived.Test.YtlkfcbdbieenhaaCropT9
set_option linter.unusedSimpArgs false
set_option linter.unusedVariables false
namespace Go.Proofs.Ytlkfcbdbieenhaa
open Go.RowKit Go.Vm
set_option maxRecDepth 100000
theorem smB_ok {t : Tl} (h : smB t = true) : tltB t = true ∧ -8 ≤ t.1 ∧ t.2.1 ≤ 8 ∧ -8 ≤ t.2.2.1 ∧ t.2.2.2 ≤ 8 := by
  unfold smB at h
  simp only [Bool.and_eq_true, decide_eq_true_eq] at h
  exact ⟨h.1.1.1.1, h.1.1.1.2, h.1.1.2, h.1.2, h.2⟩
def allS (l : List Tl) (tol x y : Int) (js : List Int) : Bool := js.all fun j => suitsB (nth l j.toNat) x y tol
theorem allS_sq {l : List Tl} {tol x y : Int} {js : List Int} (hj0 : js ≠ []) (hs : ∀ j ∈ js, tltB (nth l j.toNat) = true) : allS l tol x y js = true ↔ inSq (sqL l tol js) x y := by
  rw [in_sqL hj0]
  unfold allS
  rw [List.all_eq_true]
  exact ⟨fun h j hj => (suits_sq (hs j hj) x y tol).1 (h j hj), fun h j hj => (suits_sq (hs j hj) x y tol).2 (h j hj)⟩
theorem sq_bd {t : Tl} {tol x y : Int} (h : smB t = true) (h1 : tol ≤ 10) (q : inSq (ofF t tol) x y) : (-20 ≤ x ∧ x ≤ 20) ∧ -20 ≤ y ∧ y ≤ 20 := by
  obtain ⟨h2, h3, h4, h5, h6⟩ := smB_ok h
  have := tlt_ok h2
  unfold inSq ofF at q
  simp only at q
  omega
/- boule/bouleref07.Turn · slots 54 · names 0:l 1:of 2:tolerance 3:limit 4:l 5:of 6:tolerance 7:limit 10:x 11:y 12:s 13:all 14:i · results [8, 9] -/
def ir43_r0 : IC := .reg [⟨some 8, none, false, .alloc [(.int .i64 0), (.int .i64 0)]⟩,
  ⟨some 9, none, false, .mv (.k (.bool false))⟩] (some [0, 1, 2, 3, 8])
def ir43_r1 : IC := .reg [⟨some 15, none, false, .mv (.t 3)⟩,
  ⟨some 16, none, false, .neg (.t 15)⟩,
  ⟨some 10, none, false, .mv (.t 16)⟩] (some [0, 1, 2, 3, 8, 10])
def ir43_r2 : IC := .reg [⟨some 17, none, false, .mv (.t 10)⟩,
  ⟨some 18, none, false, .mv (.t 3)⟩,
  ⟨some 19, none, false, .cmp .leq (.t 17) (.t 18)⟩] (some [0, 1, 2, 3, 8, 10, 19])
def ir43_1 : IC := .cond (.t 19) .skip (.exit 0)
def ir43_2 : IC := .seq ir43_r2 ir43_1
def ir43_r4 : IC := .reg [⟨some 22, none, false, .mv (.t 3)⟩,
  ⟨some 23, none, false, .neg (.t 22)⟩,
  ⟨some 11, none, false, .mv (.t 23)⟩] (some [0, 1, 2, 3, 8, 10, 11])
def ir43_r5 : IC := .reg [⟨some 24, none, false, .mv (.t 11)⟩,
  ⟨some 25, none, false, .mv (.t 3)⟩,
  ⟨some 26, none, false, .cmp .leq (.t 24) (.t 25)⟩] (some [0, 1, 2, 3, 8, 10, 11, 26])
def ir43_3 : IC := .cond (.t 26) .skip (.exit 2)
def ir43_4 : IC := .seq ir43_r5 ir43_3
def ir43_r7 : IC := .reg [⟨some 29, none, false, .mv (.t 10)⟩,
  ⟨some 30, none, false, .mv (.t 11)⟩,
  ⟨some 31, none, false, .bld [(.int .i64 0), (.int .i64 0)] [(0, 1, (.t 29)), (1, 1, (.t 30))]⟩,
  ⟨some 12, none, false, .alloc [(.int .i64 0), (.int .i64 0)]⟩,
  ⟨none, none, false, .st 2 (.t 12) (.t 31)⟩] (some [0, 1, 2, 3, 8, 10, 11, 12])
def ir43_r8 : IC := .reg [⟨some 13, none, false, .mv (.k (.bool true))⟩] (some [0, 1, 2, 3, 8, 10, 11, 12, 13])
def ir43_r9 : IC := .reg [⟨some 14, none, false, .mv (.k (.int .i64 0))⟩] (some [0, 1, 2, 3, 8, 10, 11, 12, 13, 14])
def ir43_r10 : IC := .reg [⟨some 32, none, false, .mv (.t 14)⟩,
  ⟨some 33, none, false, .mv (.t 1)⟩,
  ⟨some 34, none, false, .len (.t 33)⟩,
  ⟨some 35, none, false, .cmp .lss (.t 32) (.t 34)⟩] (some [0, 1, 2, 3, 8, 10, 11, 12, 13, 14, 35])
def ir43_5 : IC := .cond (.t 35) .skip (.exit 4)
def ir43_6 : IC := .seq ir43_r10 ir43_5
def ir43_r12 : IC := .draw [(⟨some 38, none, false, .mv (.t 13)⟩, false, 0, 0),
  (⟨some 39, none, false, .mv (.t 38)⟩, false, 1, 0),
  (⟨some 40, some (39, true), false, .mv (.t 0)⟩, false, 3, 0),
  (⟨some 41, some (39, true), false, .mv (.t 1)⟩, false, 3, 0),
  (⟨some 42, some (39, true), false, .mv (.t 14)⟩, false, 3, 0),
  (⟨some 43, some (39, true), false, .iad 1 (.t 41) (.t 42)⟩, false, 27, 0),
  (⟨some 44, some (39, true), false, .ldc (.t 43)⟩, false, 59, 1),
  (⟨some 45, some (39, true), false, .iad 4 (.t 40) (.t 44)⟩, false, 127, 0),
  (⟨some 46, some (39, true), false, .lda 4 (.t 45)⟩, false, 255, 1),
  (⟨some 47, some (39, true), false, .lda 2 (.t 12)⟩, false, 3, 256),
  (⟨some 48, some (39, true), false, .mv (.t 2)⟩, false, 3, 0),
  (⟨some 49, some (39, true), false, .call (.f 75) [(.t 46), (.t 47), (.t 48)]⟩, true, 2047, 1),
  (⟨some 50, none, false, .pick (.t 39) (.t 49) (.k (.bool false))⟩, false, 4095, 0),
  (⟨some 13, none, false, .mv (.t 50)⟩, false, 8191, 0)] (some [0, 1, 2, 3, 8, 10, 11, 12, 13, 14])
def ir43_7 : IC := .block 5 ir43_r12
def ir43_r11 : IC := .reg [⟨some 36, none, false, .mv (.t 14)⟩,
  ⟨some 37, none, false, .ar .add (.t 36) (.k (.int .i64 1))⟩,
  ⟨some 14, none, false, .mv (.t 37)⟩] (some [0, 1, 2, 3, 8, 10, 11, 12, 13, 14])
def ir43_8 : IC := .seq ir43_7 ir43_r11
def ir43_9 : IC := .seq ir43_6 ir43_8
def ir43_10 : IC := .loop ir43_9
def ir43_11 : IC := .block 4 ir43_10
def ir43_12 : IC := .seq ir43_r9 ir43_11
def ir43_r13 : IC := .reg [⟨some 51, none, false, .mv (.t 13)⟩] (some [0, 1, 2, 3, 8, 10, 11, 12, 51])
def ir43_r14 : IC := .reg [⟨some 52, none, false, .lda 2 (.t 12)⟩,
  ⟨none, none, false, .st 2 (.t 8) (.t 52)⟩,
  ⟨some 9, none, false, .mv (.k (.bool true))⟩] (some [8, 9])
def ir43_13 : IC := .seq ir43_r14 .ret
def ir43_14 : IC := .cond (.t 51) ir43_13 .skip
def ir43_15 : IC := .seq ir43_r13 ir43_14
def ir43_16 : IC := .seq ir43_12 ir43_15
def ir43_17 : IC := .seq ir43_r8 ir43_16
def ir43_18 : IC := .seq ir43_r7 ir43_17
def ir43_19 : IC := .block 3 ir43_18
def ir43_r6 : IC := .reg [⟨some 27, none, false, .mv (.t 11)⟩,
  ⟨some 28, none, false, .ar .add (.t 27) (.k (.int .i64 1))⟩,
  ⟨some 11, none, false, .mv (.t 28)⟩] (some [0, 1, 2, 3, 8, 10, 11])
def ir43_20 : IC := .seq ir43_19 ir43_r6
def ir43_21 : IC := .seq ir43_4 ir43_20
def ir43_22 : IC := .loop ir43_21
def ir43_23 : IC := .block 2 ir43_22
def ir43_24 : IC := .seq ir43_r4 ir43_23
def ir43_25 : IC := .block 1 ir43_24
def ir43_r3 : IC := .reg [⟨some 20, none, false, .mv (.t 10)⟩,
  ⟨some 21, none, false, .ar .add (.t 20) (.k (.int .i64 1))⟩,
  ⟨some 10, none, false, .mv (.t 21)⟩] (some [0, 1, 2, 3, 8, 10])
def ir43_26 : IC := .seq ir43_25 ir43_r3
def ir43_27 : IC := .seq ir43_2 ir43_26
def ir43_28 : IC := .loop ir43_27
def ir43_29 : IC := .block 0 ir43_28
def ir43_30 : IC := .seq ir43_r1 ir43_29
def ir43_r15 : IC := .reg [⟨some 53, none, false, .bld [(.int .i64 0), (.int .i64 0)] []⟩,
  ⟨none, none, false, .st 2 (.t 8) (.t 53)⟩,
  ⟨some 9, none, false, .mv (.k (.bool false))⟩] (some [8, 9])
def ir43_31 : IC := .seq ir43_r15 .ret
def ir43_32 : IC := .seq ir43_30 ir43_31
def ir43_33 : IC := .seq ir43_r0 ir43_32
def ir43 : IC := ir43_33
theorem fn43 : FnIs Try.prog 43 ir43 54 [.cell 8 86, .tmp 9] := ⟨Try.f43, Try.f43.body.getD .skip, Try.func43, by kernel_rfl, by kernel_rfl, by kernel_rfl, by kernel_rfl⟩
abbrev mU (l : List Tl) (js : List Int) : List (Option AObj) := [none, some (.cells ⟨rows eT l, 0, false⟩), some (.cells ⟨rows eN js, 0, false⟩), some (.cells ⟨[.int .i64 0, .int .i64 0], 1, false⟩)]
abbrev sU (m d : Nat) : Value := .slice (some ⟨2, 0, none⟩) m d
abbrev rU (q : Int × Int × Bool) : Value := .tuple #[.agg #[.int .i64 q.1, .int .i64 q.2.1], .bool q.2.2]
theorem refTurn_c (n c : Nat) (l : List Tl) (tol : Int) (m d : Nat) (js : List Int) (hn : l.length = n) (hm : js.length = m) (hm1 : 1 ≤ m) (hmb : m ≤ 1000) (hj : ∀ j ∈ js, 0 ≤ j ∧ j < n) (ht : ∀ i, i < n → smB (nth l i) = true) (h1 : tol ≤ 10) (h0 : 0 ≤ tol) :
    Fc Try.prog 43 [sT n c, sU m d, .int .i64 tol, .int .i64 20] (Hp 3 [none, some (.cells ⟨rows eT l, 0, false⟩), some (.cells ⟨rows eN js, 0, false⟩)]) (rU (firstF (sqL l tol js))) (Hp 3 [none, some (.cells ⟨rows eT l, 0, false⟩), some (.cells ⟨rows eN js, 0, false⟩)]) := by
  have hne : js ≠ [] := fun e => by rw [e] at hm; simp at hm; omega
  have htj : ∀ j ∈ js, tltB (nth l j.toNat) = true := fun j hj2 => (smB_ok (ht _ (by have := hj j hj2; omega))).1
  have hsq : ∀ x y, allS l tol x y js = true ↔ inSq (sqL l tol js) x y := fun x y => allS_sq hne htj
  have hbd : ∀ x y, inSq (sqL l tol js) x y → (-20 ≤ x ∧ x ≤ 20) ∧ -20 ≤ y ∧ y ≤ 20 := fun x y h => by
    obtain ⟨j, hj2⟩ := List.exists_mem_of_ne_nil _ hne
    exact sq_bd (ht _ (by have := hj j hj2; omega)) h1 ((in_sqL hne).1 h j hj2)
  refine Fc.intro0 fn43 (by simp) rfl rfl ?_; simp only [argF]
  refine ITri.seq ?_
  refine ITri.reg pokT ?_; simp -implicitDefEqProofs (disch := first | decide | exact of_eq_true (eq_true rfl) | omega | assumption) only [ ↓vcD, vcE, evs, evP, evB, intsOf, fillC, Value.cells, pt, List.append_nil, List.nil_append, List.cons_append, List.length_cons, List.length_nil, List.filter_nil, List.map_nil, ↓List.getElem?_cons_zero, ↓List.getElem?_cons_succ, List.getElem?_cons_zero, List.getElem?_cons_succ, List.set_cons_zero, List.set_cons_succ, Option.join_some, Option.join_none, Option.map_some, List.all_cons, List.all_nil, Value.oneCell', reduceIte, reduceCtorEq, Nat.reduceEqDiff, Nat.reduceAdd, Nat.reduceMul, Nat.reduceLT, Nat.reduceBEq, Nat.reduceLeDiff, Nat.reduceSub, List.size_toArray] -- r0 ref.go:190
  refine ITri.seq ?_
  refine ITri.seq ?_
  refine ITri.reg pokT ?_; simp -implicitDefEqProofs (disch := first | decide | exact of_eq_true (eq_true rfl) | omega | assumption) only [ ↓vcD, vcE, evs, evP, evB, intsOf, fillC, Value.cells, pt, List.append_nil, List.nil_append, List.cons_append, List.length_cons, List.length_nil, List.filter_nil, List.map_nil, ↓List.getElem?_cons_zero, ↓List.getElem?_cons_succ, List.getElem?_cons_zero, List.getElem?_cons_succ, List.set_cons_zero, List.set_cons_succ, Option.join_some, Option.join_none, Option.map_some, List.all_cons, List.all_nil, Value.oneCell', reduceIte, reduceCtorEq, Nat.reduceEqDiff, Nat.reduceAdd, Nat.reduceMul, Nat.reduceLT, Nat.reduceBEq, Nat.reduceLeDiff, Nat.reduceSub, List.size_toArray] -- r1 ref.go:191
  refine ITri.block ?_ -- 0
  refine ITri.loop (fun a : Nat => [(0, sT n c), (1, sU m d), (2, .int .i64 tol), (3, .int .i64 20), (8, pt 3), (10, .int .i64 (-20 + a))]) (fun _ => []) (fun a => Hp 3 (mU l js)) (fun a => a ≤ 41 ∧ ∀ x y : Int, x < -20 + (a : Int) → ¬ inSq (sqL l tol js) x y) (fun a => 41 - a) 0 ⟨by omega, fun x y hx hs => by have := hbd x y hs; omega⟩ (Wk.sub ⟨rfl, rfl, rfl, rfl, rfl, rfl, trivial⟩) fun a ha => ?_
  obtain ⟨ha, hA⟩ := ha
  refine ITri.seq ?_
  refine ITri.seq ?_
  refine ITri.reg pokT ?_; simp -implicitDefEqProofs (disch := first | decide | exact of_eq_true (eq_true rfl) | omega | assumption) only [ ↓vcD, vcE, evs, evP, evB, intsOf, fillC, Value.cells, pt, List.append_nil, List.nil_append, List.cons_append, List.length_cons, List.length_nil, List.filter_nil, List.map_nil, ↓List.getElem?_cons_zero, ↓List.getElem?_cons_succ, List.getElem?_cons_zero, List.getElem?_cons_succ, List.set_cons_zero, List.set_cons_succ, Option.join_some, Option.join_none, Option.map_some, List.all_cons, List.all_nil, Value.oneCell', reduceIte, reduceCtorEq, Nat.reduceEqDiff, Nat.reduceAdd, Nat.reduceMul, Nat.reduceLT, Nat.reduceBEq, Nat.reduceLeDiff, Nat.reduceSub, List.size_toArray] -- r2 ref.go:191
  refine ITri.condD (by rfl) (fun h2 => ?_) (fun h2 => ?_) -- %19
  rotate_left
  · refine ITri.exit ?_; try simp -implicitDefEqProofs (disch := first | decide | exact of_eq_true (eq_true rfl) | omega | assumption) only [ ↓vcD, vcE, evs, evP, evB, intsOf, fillC, Value.cells, pt, List.append_nil, List.nil_append, List.cons_append, List.length_cons, List.length_nil, List.filter_nil, List.map_nil, ↓List.getElem?_cons_zero, ↓List.getElem?_cons_succ, List.getElem?_cons_zero, List.getElem?_cons_succ, List.set_cons_zero, List.set_cons_succ, Option.join_some, Option.join_none, Option.map_some, List.all_cons, List.all_nil, Value.oneCell', reduceIte, reduceCtorEq, Nat.reduceEqDiff, Nat.reduceAdd, Nat.reduceMul, Nat.reduceLT, Nat.reduceBEq, Nat.reduceLeDiff, Nat.reduceSub, List.size_toArray] -- exit 0
    have e : firstF (sqL l tol js) = (0, 0, false) := first_no fun x y hs => by
      have := hbd x y hs
      exact hA x y (by omega) hs
    rw [e]
    refine ITri.seq ?_
    refine ITri.reg pokT ?_; simp -implicitDefEqProofs (disch := first | decide | exact of_eq_true (eq_true rfl) | omega | assumption) only [ ↓vcD, vcE, evs, evP, evB, intsOf, fillC, Value.cells, pt, List.append_nil, List.nil_append, List.cons_append, List.length_cons, List.length_nil, List.filter_nil, List.map_nil, ↓List.getElem?_cons_zero, ↓List.getElem?_cons_succ, List.getElem?_cons_zero, List.getElem?_cons_succ, List.set_cons_zero, List.set_cons_succ, Option.join_some, Option.join_none, Option.map_some, List.all_cons, List.all_nil, Value.oneCell', reduceIte, reduceCtorEq, Nat.reduceEqDiff, Nat.reduceAdd, Nat.reduceMul, Nat.reduceLT, Nat.reduceBEq, Nat.reduceLeDiff, Nat.reduceSub, List.size_toArray] -- r15 ref.go:203
    refine ITri.ret ?_; exact EndR.plain (vs := [.agg ⟨[.int .i64 0, .int .i64 0]⟩, .bool false]) (by simp) (resF_agg 2 rfl (by kernel_rfl) (by simp -implicitDefEqProofs (disch := first | decide | exact of_eq_true (eq_true rfl) | omega | assumption) only [↓vcD, vcE, evs, evP, evB, intsOf, fillC, Value.cells, pt, List.append_nil, List.nil_append, List.cons_append, List.length_cons, List.length_nil, List.filter_nil, List.map_nil, ↓List.getElem?_cons_zero, ↓List.getElem?_cons_succ, List.getElem?_cons_zero, List.getElem?_cons_succ, List.set_cons_zero, List.set_cons_succ, Option.join_some, Option.join_none, Option.map_some, List.all_cons, List.all_nil, Value.oneCell', reduceIte, reduceCtorEq, Nat.reduceEqDiff, Nat.reduceAdd, Nat.reduceMul, Nat.reduceLT, Nat.reduceBEq, Nat.reduceLeDiff, Nat.reduceSub, List.size_toArray]) (resF_tmp rfl resF_nil)) (by rfl) (by rfl)
  refine ITri.skip ?_; simp only [SeqQ_normal, BlkQ_normal]
  refine ITri.seq ?_
  refine ITri.block ?_ -- 1
  refine ITri.seq ?_
  refine ITri.reg pokT ?_; simp -implicitDefEqProofs (disch := first | decide | exact of_eq_true (eq_true rfl) | omega | assumption) only [ ↓vcD, vcE, evs, evP, evB, intsOf, fillC, Value.cells, pt, List.append_nil, List.nil_append, List.cons_append, List.length_cons, List.length_nil, List.filter_nil, List.map_nil, ↓List.getElem?_cons_zero, ↓List.getElem?_cons_succ, List.getElem?_cons_zero, List.getElem?_cons_succ, List.set_cons_zero, List.set_cons_succ, Option.join_some, Option.join_none, Option.map_some, List.all_cons, List.all_nil, Value.oneCell', reduceIte, reduceCtorEq, Nat.reduceEqDiff, Nat.reduceAdd, Nat.reduceMul, Nat.reduceLT, Nat.reduceBEq, Nat.reduceLeDiff, Nat.reduceSub, List.size_toArray] -- r4 ref.go:192
  refine ITri.block ?_ -- 2
  refine ITri.loop (fun b : Nat => [(0, sT n c), (1, sU m d), (2, .int .i64 tol), (3, .int .i64 20), (8, pt 3), (10, .int .i64 (-20 + a)), (11, .int .i64 (-20 + b))]) (fun _ => []) (fun b => Hp 3 (mU l js)) (fun b => b ≤ 41 ∧ ∀ y : Int, y < -20 + (b : Int) → ¬ inSq (sqL l tol js) (-20 + (a : Int)) y) (fun b => 41 - b) 0 ⟨by omega, fun y hy hs => by have := hbd _ y hs; omega⟩ (Wk.sub ⟨rfl, rfl, rfl, rfl, rfl, rfl, rfl, trivial⟩) fun b hb => ?_
  obtain ⟨hb, hB⟩ := hb
  refine ITri.seq ?_
  refine ITri.seq ?_
  refine ITri.reg pokT ?_; simp -implicitDefEqProofs (disch := first | decide | exact of_eq_true (eq_true rfl) | omega | assumption) only [ ↓vcD, vcE, evs, evP, evB, intsOf, fillC, Value.cells, pt, List.append_nil, List.nil_append, List.cons_append, List.length_cons, List.length_nil, List.filter_nil, List.map_nil, ↓List.getElem?_cons_zero, ↓List.getElem?_cons_succ, List.getElem?_cons_zero, List.getElem?_cons_succ, List.set_cons_zero, List.set_cons_succ, Option.join_some, Option.join_none, Option.map_some, List.all_cons, List.all_nil, Value.oneCell', reduceIte, reduceCtorEq, Nat.reduceEqDiff, Nat.reduceAdd, Nat.reduceMul, Nat.reduceLT, Nat.reduceBEq, Nat.reduceLeDiff, Nat.reduceSub, List.size_toArray] -- r5 ref.go:192
  refine ITri.condD (by rfl) (fun h4 => ?_) (fun h4 => ?_) -- %26
  rotate_left
  · refine ITri.exit ?_; try simp -implicitDefEqProofs (disch := first | decide | exact of_eq_true (eq_true rfl) | omega | assumption) only [ ↓vcD, vcE, evs, evP, evB, intsOf, fillC, Value.cells, pt, List.append_nil, List.nil_append, List.cons_append, List.length_cons, List.length_nil, List.filter_nil, List.map_nil, ↓List.getElem?_cons_zero, ↓List.getElem?_cons_succ, List.getElem?_cons_zero, List.getElem?_cons_succ, List.set_cons_zero, List.set_cons_succ, Option.join_some, Option.join_none, Option.map_some, List.all_cons, List.all_nil, Value.oneCell', reduceIte, reduceCtorEq, Nat.reduceEqDiff, Nat.reduceAdd, Nat.reduceMul, Nat.reduceLT, Nat.reduceBEq, Nat.reduceLeDiff, Nat.reduceSub, List.size_toArray] -- exit 2
    refine ITri.reg pokT ?_; simp -implicitDefEqProofs (disch := first | decide | exact of_eq_true (eq_true rfl) | omega | assumption) only [ ↓vcD, vcE, evs, evP, evB, intsOf, fillC, Value.cells, pt, List.append_nil, List.nil_append, List.cons_append, List.length_cons, List.length_nil, List.filter_nil, List.map_nil, ↓List.getElem?_cons_zero, ↓List.getElem?_cons_succ, List.getElem?_cons_zero, List.getElem?_cons_succ, List.set_cons_zero, List.set_cons_succ, Option.join_some, Option.join_none, Option.map_some, List.all_cons, List.all_nil, Value.oneCell', reduceIte, reduceCtorEq, Nat.reduceEqDiff, Nat.reduceAdd, Nat.reduceMul, Nat.reduceLT, Nat.reduceBEq, Nat.reduceLeDiff, Nat.reduceSub, List.size_toArray] -- r3 ref.go:191
    refine LoopQ.next (a + 1) ⟨by omega, fun x y hx hs => ?_⟩ (by omega) (Wk.sub ⟨rfl, rfl, rfl, rfl, rfl, ?_, trivial⟩)
    · have := hbd x y hs
      rcases Int.lt_or_le x (-20 + a) with q | q
      · exact hA x y q hs
      · obtain rfl : x = -20 + a := by omega
        exact hB y (by omega) hs
    · simp [lk]
      omega
  refine ITri.skip ?_; simp only [SeqQ_normal, BlkQ_normal]
  refine ITri.seq ?_
  refine ITri.block ?_ -- 3
  refine ITri.seq ?_
  refine ITri.reg pokT ?_; simp -implicitDefEqProofs (disch := first | decide | exact of_eq_true (eq_true rfl) | omega | assumption) only [ ↓vcD, vcE, evs, evP, evB, intsOf, fillC, Value.cells, pt, List.append_nil, List.nil_append, List.cons_append, List.length_cons, List.length_nil, List.filter_nil, List.map_nil, ↓List.getElem?_cons_zero, ↓List.getElem?_cons_succ, List.getElem?_cons_zero, List.getElem?_cons_succ, List.set_cons_zero, List.set_cons_succ, Option.join_some, Option.join_none, Option.map_some, List.all_cons, List.all_nil, Value.oneCell', reduceIte, reduceCtorEq, Nat.reduceEqDiff, Nat.reduceAdd, Nat.reduceMul, Nat.reduceLT, Nat.reduceBEq, Nat.reduceLeDiff, Nat.reduceSub, List.size_toArray] -- r7 ref.go:193
  refine ITri.seq ?_
  refine ITri.reg pokT ?_; simp -implicitDefEqProofs (disch := first | decide | exact of_eq_true (eq_true rfl) | omega | assumption) only [ ↓vcD, vcE, evs, evP, evB, intsOf, fillC, Value.cells, pt, List.append_nil, List.nil_append, List.cons_append, List.length_cons, List.length_nil, List.filter_nil, List.map_nil, ↓List.getElem?_cons_zero, ↓List.getElem?_cons_succ, List.getElem?_cons_zero, List.getElem?_cons_succ, List.set_cons_zero, List.set_cons_succ, Option.join_some, Option.join_none, Option.map_some, List.all_cons, List.all_nil, Value.oneCell', reduceIte, reduceCtorEq, Nat.reduceEqDiff, Nat.reduceAdd, Nat.reduceMul, Nat.reduceLT, Nat.reduceBEq, Nat.reduceLeDiff, Nat.reduceSub, List.size_toArray] -- r8 ref.go:194
  refine ITri.seq ?_
  refine ITri.seq ?_
  refine ITri.reg pokT ?_; simp -implicitDefEqProofs (disch := first | decide | exact of_eq_true (eq_true rfl) | omega | assumption) only [ ↓vcD, vcE, evs, evP, evB, intsOf, fillC, Value.cells, pt, List.append_nil, List.nil_append, List.cons_append, List.length_cons, List.length_nil, List.filter_nil, List.map_nil, ↓List.getElem?_cons_zero, ↓List.getElem?_cons_succ, List.getElem?_cons_zero, List.getElem?_cons_succ, List.set_cons_zero, List.set_cons_succ, Option.join_some, Option.join_none, Option.map_some, List.all_cons, List.all_nil, Value.oneCell', reduceIte, reduceCtorEq, Nat.reduceEqDiff, Nat.reduceAdd, Nat.reduceMul, Nat.reduceLT, Nat.reduceBEq, Nat.reduceLeDiff, Nat.reduceSub, List.size_toArray] -- r9 ref.go:195
  refine ITri.block ?_ -- 4
  generalize hx : -20 + (a : Int) = x at *
  generalize hy : -20 + (b : Int) = y at *
  refine ITri.loop (fun i : Nat => [(0, sT n c), (1, sU m d), (2, .int .i64 tol), (3, .int .i64 20), (8, pt 3), (10, .int .i64 x), (11, .int .i64 y), (12, pt 4), (13, .bool (allS l tol x y (js.take i))), (14, .int .i64 i)]) (fun _ => []) (fun i => Hp 3 [none, some (.cells ⟨rows eT l, 0, false⟩), some (.cells ⟨rows eN js, 0, false⟩), some (.cells ⟨[.int .i64 0, .int .i64 0], 1, false⟩), some (.cells ⟨[.int .i64 x, .int .i64 y], 1, false⟩)]) (fun i => i ≤ m) (fun i => m - i) 0 (Nat.zero_le _) (Wk.sub ⟨rfl, rfl, rfl, rfl, rfl, rfl, rfl, rfl, rfl, rfl, trivial⟩) fun i hi => ?_
  refine ITri.seq ?_
  refine ITri.seq ?_
  refine ITri.reg pokT ?_; simp -implicitDefEqProofs (disch := first | decide | exact of_eq_true (eq_true rfl) | omega | assumption) only [ ↓vcD, vcE, evs, evP, evB, intsOf, fillC, Value.cells, pt, List.append_nil, List.nil_append, List.cons_append, List.length_cons, List.length_nil, List.filter_nil, List.map_nil, ↓List.getElem?_cons_zero, ↓List.getElem?_cons_succ, List.getElem?_cons_zero, List.getElem?_cons_succ, List.set_cons_zero, List.set_cons_succ, Option.join_some, Option.join_none, Option.map_some, List.all_cons, List.all_nil, Value.oneCell', reduceIte, reduceCtorEq, Nat.reduceEqDiff, Nat.reduceAdd, Nat.reduceMul, Nat.reduceLT, Nat.reduceBEq, Nat.reduceLeDiff, Nat.reduceSub, List.size_toArray] -- r10 ref.go:195
  refine ITri.condD (by rfl) (fun h6 => ?_) (fun h6 => ?_) -- %35
  · refine ITri.skip ?_; simp only [SeqQ_normal, BlkQ_normal]
    refine ITri.seq ?_
    refine ITri.block ?_ -- 5
    have him : i < js.length := by omega
    have hgi : (rows eN js)[i]? = some (.int .i64 (nth js i)) := getN him
    have hij := hj _ (nth_mem him)
    have htk : takeC (rows eT l) ((nth js i).toNat * 4) 4 = some (eT (nth l (nth js i).toNat)) := takeT (by omega)
    have hsu : allS l tol x y (js.take (i + 1)) = (allS l tol x y (js.take i) && suitsB (nth l (nth js i).toNat) x y tol) := by
      unfold allS
      rw [List.take_add_one, get_nth him, List.all_append]
      simp
    have hj0 : 0 ≤ nth js i := hij.1
    have hj1 : nth js i < n := hij.2
    cases hal : allS l tol x y (js.take i) with
    | false =>
      rw [hal, Bool.false_and] at hsu
      refine ITri.draw pokT ?_; simp -implicitDefEqProofs (disch := first | decide | exact of_eq_true (eq_true rfl) | omega | assumption) only [hal,  ↓vcD, vcE, evs, evP, evB, intsOf, fillC, Value.cells, pt, List.append_nil, List.nil_append, List.cons_append, List.length_cons, List.length_nil, List.filter_nil, List.map_nil, ↓List.getElem?_cons_zero, ↓List.getElem?_cons_succ, List.getElem?_cons_zero, List.getElem?_cons_succ, List.set_cons_zero, List.set_cons_succ, Option.join_some, Option.join_none, Option.map_some, List.all_cons, List.all_nil, Value.oneCell', reduceIte, reduceCtorEq, Nat.reduceEqDiff, Nat.reduceAdd, Nat.reduceMul, Nat.reduceLT, Nat.reduceBEq, Nat.reduceLeDiff, Nat.reduceSub, List.size_toArray]
      refine ITri.reg pokT ?_; simp -implicitDefEqProofs (disch := first | decide | exact of_eq_true (eq_true rfl) | omega | assumption) only [ ↓vcD, vcE, evs, evP, evB, intsOf, fillC, Value.cells, pt, List.append_nil, List.nil_append, List.cons_append, List.length_cons, List.length_nil, List.filter_nil, List.map_nil, ↓List.getElem?_cons_zero, ↓List.getElem?_cons_succ, List.getElem?_cons_zero, List.getElem?_cons_succ, List.set_cons_zero, List.set_cons_succ, Option.join_some, Option.join_none, Option.map_some, List.all_cons, List.all_nil, Value.oneCell', reduceIte, reduceCtorEq, Nat.reduceEqDiff, Nat.reduceAdd, Nat.reduceMul, Nat.reduceLT, Nat.reduceBEq, Nat.reduceLeDiff, Nat.reduceSub, List.size_toArray]
      refine LoopQ.next (i + 1) (by omega) (by omega) (Wk.sub ⟨rfl, rfl, rfl, rfl, rfl, rfl, rfl, rfl, by rw [hsu]; rfl, rfl, trivial⟩)
    | true =>
      rw [hal, Bool.true_and] at hsu
      refine ITri.draw pokT ?_; simp -implicitDefEqProofs (disch := first | decide | exact of_eq_true (eq_true rfl) | omega | assumption) only [hal, hgi, htk,  ↓vcD, vcE, evs, evP, evB, intsOf, fillC, Value.cells, pt, List.append_nil, List.nil_append, List.cons_append, List.length_cons, List.length_nil, List.filter_nil, List.map_nil, ↓List.getElem?_cons_zero, ↓List.getElem?_cons_succ, List.getElem?_cons_zero, List.getElem?_cons_succ, List.set_cons_zero, List.set_cons_succ, Option.join_some, Option.join_none, Option.map_some, List.all_cons, List.all_nil, Value.oneCell', reduceIte, reduceCtorEq, Nat.reduceEqDiff, Nat.reduceAdd, Nat.reduceMul, Nat.reduceLT, Nat.reduceBEq, Nat.reduceLeDiff, Nat.reduceSub, List.size_toArray]
      refine ⟨_, _, refSuits_f (nth l (nth js i).toNat) x y tol (htj _ (nth_mem him)) (by omega) (by omega) (sees0 rfl (of_decide_eq_true rfl)), ?_⟩
      try simp -implicitDefEqProofs (disch := first | decide | exact of_eq_true (eq_true rfl) | omega | assumption) only [ ↓vcD, vcE, evs, evP, evB, intsOf, fillC, Value.cells, pt, List.append_nil, List.nil_append, List.cons_append, List.length_cons, List.length_nil, List.filter_nil, List.map_nil, ↓List.getElem?_cons_zero, ↓List.getElem?_cons_succ, List.getElem?_cons_zero, List.getElem?_cons_succ, List.set_cons_zero, List.set_cons_succ, Option.join_some, Option.join_none, Option.map_some, List.all_cons, List.all_nil, Value.oneCell', reduceIte, reduceCtorEq, Nat.reduceEqDiff, Nat.reduceAdd, Nat.reduceMul, Nat.reduceLT, Nat.reduceBEq, Nat.reduceLeDiff, Nat.reduceSub, List.size_toArray]
      refine ITri.reg pokT ?_; simp -implicitDefEqProofs (disch := first | decide | exact of_eq_true (eq_true rfl) | omega | assumption) only [ ↓vcD, vcE, evs, evP, evB, intsOf, fillC, Value.cells, pt, List.append_nil, List.nil_append, List.cons_append, List.length_cons, List.length_nil, List.filter_nil, List.map_nil, ↓List.getElem?_cons_zero, ↓List.getElem?_cons_succ, List.getElem?_cons_zero, List.getElem?_cons_succ, List.set_cons_zero, List.set_cons_succ, Option.join_some, Option.join_none, Option.map_some, List.all_cons, List.all_nil, Value.oneCell', reduceIte, reduceCtorEq, Nat.reduceEqDiff, Nat.reduceAdd, Nat.reduceMul, Nat.reduceLT, Nat.reduceBEq, Nat.reduceLeDiff, Nat.reduceSub, List.size_toArray]
      refine LoopQ.next (i + 1) (by omega) (by omega) (Wk.sub ⟨rfl, rfl, rfl, rfl, rfl, rfl, rfl, rfl, by rw [hsu]; rfl, rfl, trivial⟩)
  refine ITri.exit ?_; try simp -implicitDefEqProofs (disch := first | decide | exact of_eq_true (eq_true rfl) | omega | assumption) only [ ↓vcD, vcE, evs, evP, evB, intsOf, fillC, Value.cells, pt, List.append_nil, List.nil_append, List.cons_append, List.length_cons, List.length_nil, List.filter_nil, List.map_nil, ↓List.getElem?_cons_zero, ↓List.getElem?_cons_succ, List.getElem?_cons_zero, List.getElem?_cons_succ, List.set_cons_zero, List.set_cons_succ, Option.join_some, Option.join_none, Option.map_some, List.all_cons, List.all_nil, Value.oneCell', reduceIte, reduceCtorEq, Nat.reduceEqDiff, Nat.reduceAdd, Nat.reduceMul, Nat.reduceLT, Nat.reduceBEq, Nat.reduceLeDiff, Nat.reduceSub, List.size_toArray] -- exit 4
  obtain rfl : m = i := by omega
  rw [List.take_of_length_le (by omega)]
  refine ITri.seq ?_
  refine ITri.reg pokT ?_; simp -implicitDefEqProofs (disch := first | decide | exact of_eq_true (eq_true rfl) | omega | assumption) only [ ↓vcD, vcE, evs, evP, evB, intsOf, fillC, Value.cells, pt, List.append_nil, List.nil_append, List.cons_append, List.length_cons, List.length_nil, List.filter_nil, List.map_nil, ↓List.getElem?_cons_zero, ↓List.getElem?_cons_succ, List.getElem?_cons_zero, List.getElem?_cons_succ, List.set_cons_zero, List.set_cons_succ, Option.join_some, Option.join_none, Option.map_some, List.all_cons, List.all_nil, Value.oneCell', reduceIte, reduceCtorEq, Nat.reduceEqDiff, Nat.reduceAdd, Nat.reduceMul, Nat.reduceLT, Nat.reduceBEq, Nat.reduceLeDiff, Nat.reduceSub, List.size_toArray] -- r13 ref.go:198
  cases hal : allS l tol x y js with
  | true =>
    refine ITri.cond (v := true) rfl (fun _ => ?_) (fun h => by cases h)
    have e : firstF (sqL l tol js) = (x, y, true) := first_uniq ((hsq x y).1 hal) fun x' y' hs => by
      rcases Int.lt_or_le x' x with q | q
      · exact absurd hs (hA x' y' q)
      · rcases Int.lt_or_le x x' with q2 | q2
        · exact .inl q2
        · obtain rfl : x = x' := by omega
          rcases Int.lt_or_le y' y with q3 | q3
          · exact absurd hs (hB y' q3)
          · exact .inr ⟨rfl, q3⟩
    rw [e]
    refine ITri.seq ?_
    refine ITri.reg pokT ?_; simp -implicitDefEqProofs (disch := first | decide | exact of_eq_true (eq_true rfl) | omega | assumption) only [ ↓vcD, vcE, evs, evP, evB, intsOf, fillC, Value.cells, pt, List.append_nil, List.nil_append, List.cons_append, List.length_cons, List.length_nil, List.filter_nil, List.map_nil, ↓List.getElem?_cons_zero, ↓List.getElem?_cons_succ, List.getElem?_cons_zero, List.getElem?_cons_succ, List.set_cons_zero, List.set_cons_succ, Option.join_some, Option.join_none, Option.map_some, List.all_cons, List.all_nil, Value.oneCell', reduceIte, reduceCtorEq, Nat.reduceEqDiff, Nat.reduceAdd, Nat.reduceMul, Nat.reduceLT, Nat.reduceBEq, Nat.reduceLeDiff, Nat.reduceSub, List.size_toArray] -- r14 ref.go:199
    refine ITri.ret ?_; exact EndR.plain (vs := [.agg ⟨[.int .i64 x, .int .i64 y]⟩, .bool true]) (by simp) (resF_agg 2 rfl (by kernel_rfl) (by simp -implicitDefEqProofs (disch := first | decide | exact of_eq_true (eq_true rfl) | omega | assumption) only [↓vcD, vcE, evs, evP, evB, intsOf, fillC, Value.cells, pt, List.append_nil, List.nil_append, List.cons_append, List.length_cons, List.length_nil, List.filter_nil, List.map_nil, ↓List.getElem?_cons_zero, ↓List.getElem?_cons_succ, List.getElem?_cons_zero, List.getElem?_cons_succ, List.set_cons_zero, List.set_cons_succ, Option.join_some, Option.join_none, Option.map_some, List.all_cons, List.all_nil, Value.oneCell', reduceIte, reduceCtorEq, Nat.reduceEqDiff, Nat.reduceAdd, Nat.reduceMul, Nat.reduceLT, Nat.reduceBEq, Nat.reduceLeDiff, Nat.reduceSub, List.size_toArray]) (resF_tmp rfl resF_nil)) (by rfl) (by rfl)
  | false =>
    refine ITri.cond (v := false) rfl (fun h => by cases h) (fun _ => ?_); refine ITri.skip ?_; simp only [SeqQ_normal, BlkQ_normal]
    refine ITri.reg pokT ?_; simp -implicitDefEqProofs (disch := first | decide | exact of_eq_true (eq_true rfl) | omega | assumption) only [ ↓vcD, vcE, evs, evP, evB, intsOf, fillC, Value.cells, pt, List.append_nil, List.nil_append, List.cons_append, List.length_cons, List.length_nil, List.filter_nil, List.map_nil, ↓List.getElem?_cons_zero, ↓List.getElem?_cons_succ, List.getElem?_cons_zero, List.getElem?_cons_succ, List.set_cons_zero, List.set_cons_succ, Option.join_some, Option.join_none, Option.map_some, List.all_cons, List.all_nil, Value.oneCell', reduceIte, reduceCtorEq, Nat.reduceEqDiff, Nat.reduceAdd, Nat.reduceMul, Nat.reduceLT, Nat.reduceBEq, Nat.reduceLeDiff, Nat.reduceSub, List.size_toArray] -- r6 ref.go:192
    have ey : y + 1 = -20 + ((b : Int) + 1) := by omega
    refine LoopQ.next (b + 1) ⟨by omega, fun y' hy' hs => ?_⟩ (by omega) (Wk.gc [0, 1, 2, 3] [] (of_decide_eq_true rfl) (of_decide_eq_true rfl) rfl rfl (of_decide_eq_true rfl) rfl rfl (fun _ h => by cases h) rfl (by simp -implicitDefEqProofs (disch := first | decide | exact of_eq_true (eq_true rfl) | omega | assumption) only [objOK, sgL, xiL, objAt, nilO, OM, mvL, mv, mvS, okS, okP, mvL_rows, okML, okM, okML_rows, List.getElem?_cons_zero, Option.getD_some, implies_true, imp_self, ne_eq, and_self, ↓vcD, vcE, evs, evP, evB, intsOf, fillC, Value.cells, pt, List.append_nil, List.nil_append, List.cons_append, List.length_cons, List.length_nil, List.filter_nil, List.map_nil, ↓List.getElem?_cons_zero, ↓List.getElem?_cons_succ, List.getElem?_cons_zero, List.getElem?_cons_succ, List.set_cons_zero, List.set_cons_succ, Option.join_some, Option.join_none, Option.map_some, List.all_cons, List.all_nil, Value.oneCell', reduceIte, reduceCtorEq, Nat.reduceEqDiff, Nat.reduceAdd, Nat.reduceMul, Nat.reduceLT, Nat.reduceBEq, Nat.reduceLeDiff, Nat.reduceSub, List.size_toArray]) (by simp -implicitDefEqProofs (disch := first | decide | exact of_eq_true (eq_true rfl) | omega | assumption) only [ey, valOK, sgL, xiL, mv, mvA, mvL, mvS, okS, okP, okM, okMA, okML, Option.getD_some, implies_true, and_self, Int.natCast_add, Int.cast_ofNat_Int, ↓vcD, vcE, evs, evP, evB, intsOf, fillC, Value.cells, pt, List.append_nil, List.nil_append, List.cons_append, List.length_cons, List.length_nil, List.filter_nil, List.map_nil, ↓List.getElem?_cons_zero, ↓List.getElem?_cons_succ, List.getElem?_cons_zero, List.getElem?_cons_succ, List.set_cons_zero, List.set_cons_succ, Option.join_some, Option.join_none, Option.map_some, List.all_cons, List.all_nil, Value.oneCell', reduceIte, reduceCtorEq, Nat.reduceEqDiff, Nat.reduceAdd, Nat.reduceMul, Nat.reduceLT, Nat.reduceBEq, Nat.reduceLeDiff, Nat.reduceSub, List.size_toArray]) (fun _ h => by cases h) ⟨rfl, fun _ h => by cases h⟩)
    rcases Int.lt_or_le y' y with q | q
    · exact hB y' q hs
    · obtain rfl : y' = y := by omega
      rw [(hsq _ _).2 hs] at hal
      cases hal
theorem refTurn_f (n : Nat) (l : List Tl) (tol : Int) (m : Nat) (js : List Int) (hn : l.length = n) (hm : js.length = m) (hm1 : 1 ≤ m) (hmb : m ≤ 1000) (hj : ∀ j ∈ js, 0 ≤ j ∧ j < n) (ht : ∀ i, i < n → smB (nth l i) = true) (h1 : tol ≤ 10) (h0 : 0 ≤ tol) {h : AH} {s t : Value} (hs : h.sees 0 = true) (r : Rd h s n (rows eT l)) (r2 : Rd h t m (rows eN js)) :
    Fc Try.prog 43 [s, t, .int .i64 tol, .int .i64 20] h (rU (firstF (sqL l tol js))) h :=
  Fc.lift2 (mk := fun ss => ss ++ [.int .i64 tol, .int .i64 20]) (mkv := fun _ => rU (firstF (sqL l tol js))) (os := []) (fun c d => refTurn_c n c l tol m d js hn hm hm1 hmb hj ht h1 h0) (MkL.app rfl) (MkV.const rfl) (rows_no (f := eT) l) (rows_no (f := eN) js) (fun o ho => by cases ho) hs r r2
end Go.Proofs.Ytlkfcbdbieenhaa
