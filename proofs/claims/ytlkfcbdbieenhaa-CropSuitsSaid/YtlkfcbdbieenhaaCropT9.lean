/-
  Chapter 7, turns, by names: Conflict in any memory; little, sameInts; the reference's Turn.
-/
import Derived.Test.YtlkfcbdbieenhaaCropT8
set_option linter.unusedSimpArgs false
set_option linter.unusedVariables false
namespace Go.Proofs.Ytlkfcbdbieenhaa
open Go.RowKit Go.Vm
set_option maxRecDepth 100000
theorem conflict_f (n : Nat) (l : List Tl) (tol : Int) (hn : l.length = n) {h : AH} {s : Value} (h0 : h.sees 0 = true) (r : Rd h s n (rows eT l)) :
    Fc Try.prog 41 [s, .int .i64 tol] h (.tuple #[slO h.next (conR l tol), .int .i64 (conE l tol)]) (h.news (rowO (conR l tol))) := by
  have F := fun c => conflict_c n c l tol hn
  generalize conR l tol = o at *
  cases o with
  | none =>
    exact Fc.lift1 (mk := fun ss => ss ++ [.int .i64 tol]) (mkv := fun _ => .tuple #[.slice none 0 0, .int .i64 (conE l tol)]) (os := []) F (MkL.app rfl) (MkV.const rfl) (rows_no (f := eT) l) (fun o ho => by cases ho) h0 r
  | some js =>
    exact Fc.lift1 (mk := fun ss => ss ++ [.int .i64 tol]) (mkv := fun ss => .tuple ⟨ss ++ [.int .i64 (conE l tol)]⟩) (os := [(js.length, rows eN js, 1)]) (fun c => (Hq_news _ ▸ F c :)) (MkL.app rfl) (MkV.tup (MkL.app rfl)) (rows_no (f := eT) l) (fun o ho => by
      simp only [List.mem_singleton] at ho
      subst ho
      exact rows_no _) h0 r
/- boule/boulelaw07.little · slots 47 · names 0:x 1:x 3:i 4:t · results [2] -/
def ir42_r0 : IC := .reg [⟨some 1, none, false, .box (.t 0)⟩,
  ⟨some 2, none, false, .mv (.k (.bool false))⟩] (some [1])
def ir42_r1 : IC := .reg [⟨some 3, none, false, .mv (.k (.int .i64 0))⟩] (some [1, 3])
def ir42_r2 : IC := .reg [⟨some 5, none, false, .mv (.t 3)⟩,
  ⟨some 6, none, false, .fad 0 (.t 1)⟩,
  ⟨some 7, none, false, .ldc (.t 6)⟩,
  ⟨some 8, none, false, .len (.t 7)⟩,
  ⟨some 9, none, false, .cmp .lss (.t 5) (.t 8)⟩] (some [1, 3, 9])
def ir42_1 : IC := .cond (.t 9) .skip (.exit 0)
def ir42_2 : IC := .seq ir42_r2 ir42_1
def ir42_r4 : IC := .reg [⟨some 12, none, false, .fad 0 (.t 1)⟩,
  ⟨some 13, none, false, .ldc (.t 12)⟩,
  ⟨some 14, none, false, .mv (.t 3)⟩,
  ⟨some 15, none, false, .iad 4 (.t 13) (.t 14)⟩,
  ⟨some 16, none, false, .lda 4 (.t 15)⟩,
  ⟨some 4, none, false, .alloc [(.int .i64 0), (.int .i64 0), (.int .i64 0), (.int .i64 0)]⟩,
  ⟨none, none, false, .st 4 (.t 4) (.t 16)⟩] (some [1, 3, 4])
def ir42_r5 : IC := .reg [⟨some 17, none, false, .lda 4 (.t 4)⟩,
  ⟨some 18, none, false, .call (.f 37) [(.t 17)]⟩,
  ⟨some 19, none, false, .not (.t 18)⟩,
  ⟨some 20, none, false, .mv (.t 19)⟩,
  ⟨some 21, some (20, false), false, .fad 0 (.t 4)⟩,
  ⟨some 22, some (20, false), false, .fad 0 (.t 21)⟩,
  ⟨some 23, some (20, false), false, .ldc (.t 22)⟩,
  ⟨some 24, some (20, false), false, .cmp .lss (.t 23) (.k (.int .i64 (-8)))⟩,
  ⟨some 25, none, false, .pick (.t 20) (.k (.bool true)) (.t 24)⟩,
  ⟨some 26, none, false, .mv (.t 25)⟩,
  ⟨some 27, some (26, false), false, .fad 0 (.t 4)⟩,
  ⟨some 28, some (26, false), false, .fad 1 (.t 27)⟩,
  ⟨some 29, some (26, false), false, .ldc (.t 28)⟩,
  ⟨some 30, some (26, false), false, .cmp .gtr (.t 29) (.k (.int .i64 8))⟩,
  ⟨some 31, none, false, .pick (.t 26) (.k (.bool true)) (.t 30)⟩,
  ⟨some 32, none, false, .mv (.t 31)⟩,
  ⟨some 33, some (32, false), false, .fad 2 (.t 4)⟩,
  ⟨some 34, some (32, false), false, .fad 0 (.t 33)⟩,
  ⟨some 35, some (32, false), false, .ldc (.t 34)⟩,
  ⟨some 36, some (32, false), false, .cmp .lss (.t 35) (.k (.int .i64 (-8)))⟩,
  ⟨some 37, none, false, .pick (.t 32) (.k (.bool true)) (.t 36)⟩,
  ⟨some 38, none, false, .mv (.t 37)⟩,
  ⟨some 39, some (38, false), false, .fad 2 (.t 4)⟩,
  ⟨some 40, some (38, false), false, .fad 1 (.t 39)⟩,
  ⟨some 41, some (38, false), false, .ldc (.t 40)⟩,
  ⟨some 42, some (38, false), false, .cmp .gtr (.t 41) (.k (.int .i64 8))⟩,
  ⟨some 43, none, false, .pick (.t 38) (.k (.bool true)) (.t 42)⟩] (some [1, 3, 43])
def ir42_r6 : IC := .reg [⟨some 2, none, false, .mv (.k (.bool false))⟩] (some [2])
def ir42_3 : IC := .seq ir42_r6 .ret
def ir42_4 : IC := .cond (.t 43) ir42_3 .skip
def ir42_5 : IC := .seq ir42_r5 ir42_4
def ir42_6 : IC := .seq ir42_r4 ir42_5
def ir42_7 : IC := .block 1 ir42_6
def ir42_r3 : IC := .reg [⟨some 10, none, false, .mv (.t 3)⟩,
  ⟨some 11, none, false, .ar .add (.t 10) (.k (.int .i64 1))⟩,
  ⟨some 3, none, false, .mv (.t 11)⟩] (some [1, 3])
def ir42_8 : IC := .seq ir42_7 ir42_r3
def ir42_9 : IC := .seq ir42_2 ir42_8
def ir42_10 : IC := .loop ir42_9
def ir42_11 : IC := .block 0 ir42_10
def ir42_12 : IC := .seq ir42_r1 ir42_11
def ir42_r7 : IC := .reg [⟨some 44, none, false, .fad 1 (.t 1)⟩,
  ⟨some 45, none, false, .ldc (.t 44)⟩,
  ⟨some 46, none, false, .cmp .leq (.t 45) (.k (.int .i64 10))⟩,
  ⟨some 2, none, false, .mv (.t 46)⟩] (some [2])
def ir42_13 : IC := .seq ir42_r7 .ret
def ir42_14 : IC := .seq ir42_12 ir42_13
def ir42_15 : IC := .seq ir42_r0 ir42_14
def ir42 : IC := ir42_15
theorem fn42 : FnIs Try.prog 42 ir42 47 [.tmp 2] := ⟨Try.f42, Try.f42.body.getD .skip, Try.func42, by kernel_rfl, by kernel_rfl, by kernel_rfl, by kernel_rfl⟩
/- boule/boulelaw07.sameInts · slots 26 · names 0:a 1:b 2:a 3:b 5:i · results [4] -/
def ir44_r0 : IC := .reg [⟨some 4, none, false, .mv (.k (.bool false))⟩] (some [0, 1])
def ir44_r1 : IC := .reg [⟨some 6, none, false, .mv (.t 0)⟩,
  ⟨some 7, none, false, .len (.t 6)⟩,
  ⟨some 8, none, false, .mv (.t 1)⟩,
  ⟨some 9, none, false, .len (.t 8)⟩,
  ⟨some 10, none, false, .cmp .neq (.t 7) (.t 9)⟩] (some [0, 1, 10])
def ir44_r2 : IC := .reg [⟨some 4, none, false, .mv (.k (.bool false))⟩] (some [4])
def ir44_1 : IC := .seq ir44_r2 .ret
def ir44_2 : IC := .cond (.t 10) ir44_1 .skip
def ir44_3 : IC := .seq ir44_r1 ir44_2
def ir44_r3 : IC := .reg [⟨some 5, none, false, .mv (.k (.int .i64 0))⟩] (some [0, 1, 5])
def ir44_r4 : IC := .reg [⟨some 11, none, false, .mv (.t 5)⟩,
  ⟨some 12, none, false, .mv (.t 0)⟩,
  ⟨some 13, none, false, .len (.t 12)⟩,
  ⟨some 14, none, false, .cmp .lss (.t 11) (.t 13)⟩] (some [0, 1, 5, 14])
def ir44_4 : IC := .cond (.t 14) .skip (.exit 0)
def ir44_5 : IC := .seq ir44_r4 ir44_4
def ir44_r6 : IC := .draw [(⟨some 17, none, false, .mv (.t 0)⟩, false, 0, 0),
  (⟨some 18, none, false, .mv (.t 5)⟩, false, 0, 0),
  (⟨some 19, none, false, .iad 1 (.t 17) (.t 18)⟩, false, 3, 0),
  (⟨some 20, none, false, .ldc (.t 19)⟩, false, 7, 1),
  (⟨some 21, none, false, .mv (.t 1)⟩, false, 0, 0),
  (⟨some 22, none, false, .mv (.t 5)⟩, false, 0, 0),
  (⟨some 23, none, false, .iad 1 (.t 21) (.t 22)⟩, false, 48, 0),
  (⟨some 24, none, false, .ldc (.t 23)⟩, false, 112, 8),
  (⟨some 25, none, false, .cmp .neq (.t 20) (.t 24)⟩, false, 255, 0)] (some [0, 1, 5, 25])
def ir44_r7 : IC := .reg [⟨some 4, none, false, .mv (.k (.bool false))⟩] (some [4])
def ir44_6 : IC := .seq ir44_r7 .ret
def ir44_7 : IC := .cond (.t 25) ir44_6 .skip
def ir44_8 : IC := .seq ir44_r6 ir44_7
def ir44_9 : IC := .block 1 ir44_8
def ir44_r5 : IC := .reg [⟨some 15, none, false, .mv (.t 5)⟩,
  ⟨some 16, none, false, .ar .add (.t 15) (.k (.int .i64 1))⟩,
  ⟨some 5, none, false, .mv (.t 16)⟩] (some [0, 1, 5])
def ir44_10 : IC := .seq ir44_9 ir44_r5
def ir44_11 : IC := .seq ir44_5 ir44_10
def ir44_12 : IC := .loop ir44_11
def ir44_13 : IC := .block 0 ir44_12
def ir44_14 : IC := .seq ir44_r3 ir44_13
def ir44_r8 : IC := .reg [⟨some 4, none, false, .mv (.k (.bool true))⟩] (some [4])
def ir44_15 : IC := .seq ir44_r8 .ret
def ir44_16 : IC := .seq ir44_14 ir44_15
def ir44_17 : IC := .seq ir44_3 ir44_16
def ir44_18 : IC := .seq ir44_r0 ir44_17
def ir44 : IC := ir44_18
theorem fn44 : FnIs Try.prog 44 ir44 26 [.tmp 4] := ⟨Try.f44, Try.f44.body.getD .skip, Try.func44, by kernel_rfl, by kernel_rfl, by kernel_rfl, by kernel_rfl⟩
def smB (t : Tl) : Bool := tltB t && decide (-8 ≤ t.1) && decide (t.2.1 ≤ 8) && decide (-8 ≤ t.2.2.1) && decide (t.2.2.2 ≤ 8)
def litB (l : List Tl) (tol : Int) : Bool := l.all smB && decide (tol ≤ 10)
theorem allB_not {α : Type} [Inhabited α] {p : α → Bool} {xs : List α} {k : Nat} (hk : k < xs.length) (h : p (nth xs k) = false) : xs.all p = false := by
  rw [List.all_eq_false]
  exact ⟨_, nth_mem hk, by simp [h]⟩
theorem allB_yes {α : Type} [Inhabited α] {p : α → Bool} {xs : List α} (h : ∀ j, j < xs.length → p (nth xs j) = true) : xs.all p = true := by
  rw [List.all_eq_true]
  intro x hx
  obtain ⟨i, hi, rfl⟩ := List.mem_iff_getElem.1 hx
  have := h i hi
  rwa [show xs[i] = nth xs i from (List.getElem?_eq_some_iff.1 (get_nth hi)).2]
theorem little_c (n c : Nat) (l : List Tl) (tol sx sy : Int) (hn : l.length = n) (hb : n ≤ 1000000) : Fc Try.prog 42 [.agg #[sT n c, .int .i64 tol, .int .i64 sx, .int .i64 sy]] (mT (rows eT l)) (.bool (litB l tol)) (mT (rows eT l)) := by
  refine Fc.intro0 fn42 (by simp) rfl rfl ?_; simp only [argF]
  refine ITri.seq ?_
  refine ITri.reg pokT ?_; simp -implicitDefEqProofs (disch := first | decide | exact of_eq_true (eq_true rfl) | omega | assumption) only [ ↓vcD, vcE, evs, evP, evB, intsOf, fillC, Value.cells, pt, List.append_nil, List.nil_append, List.cons_append, List.length_cons, List.length_nil, List.filter_nil, List.map_nil, ↓List.getElem?_cons_zero, ↓List.getElem?_cons_succ, List.getElem?_cons_zero, List.getElem?_cons_succ, List.set_cons_zero, List.set_cons_succ, Option.join_some, Option.join_none, Option.map_some, List.all_cons, List.all_nil, Value.oneCell', reduceIte, reduceCtorEq, Nat.reduceEqDiff, Nat.reduceAdd, Nat.reduceMul, Nat.reduceLT, Nat.reduceBEq, Nat.reduceLeDiff, Nat.reduceSub, List.size_toArray] -- r0 law.go:212
  refine ITri.seq ?_
  refine ITri.seq ?_
  refine ITri.reg pokT ?_; simp -implicitDefEqProofs (disch := first | decide | exact of_eq_true (eq_true rfl) | omega | assumption) only [ ↓vcD, vcE, evs, evP, evB, intsOf, fillC, Value.cells, pt, List.append_nil, List.nil_append, List.cons_append, List.length_cons, List.length_nil, List.filter_nil, List.map_nil, ↓List.getElem?_cons_zero, ↓List.getElem?_cons_succ, List.getElem?_cons_zero, List.getElem?_cons_succ, List.set_cons_zero, List.set_cons_succ, Option.join_some, Option.join_none, Option.map_some, List.all_cons, List.all_nil, Value.oneCell', reduceIte, reduceCtorEq, Nat.reduceEqDiff, Nat.reduceAdd, Nat.reduceMul, Nat.reduceLT, Nat.reduceBEq, Nat.reduceLeDiff, Nat.reduceSub, List.size_toArray] -- r1 law.go:213
  refine ITri.block ?_ -- 0
  refine ITri.loop (fun k : Nat => [(1, pt 2), (3, .int .i64 k)]) (fun _ => []) (fun k => Hp 2 [none, some (.cells ⟨rows eT l, 0, false⟩), some (.cells ⟨[sT n c, .int .i64 tol, .int .i64 sx, .int .i64 sy], 1, false⟩)]) (fun k => k ≤ n ∧ ∀ j, j < k → smB (nth l j) = true) (fun k => n - k) 0 ⟨Nat.zero_le _, fun j hj => by omega⟩ (Wk.sub ⟨rfl, rfl, trivial⟩) fun k hk => ?_
  obtain ⟨hk, hj⟩ := hk
  refine ITri.seq ?_
  refine ITri.seq ?_
  refine ITri.reg pokT ?_; simp -implicitDefEqProofs (disch := first | decide | exact of_eq_true (eq_true rfl) | omega | assumption) only [ ↓vcD, vcE, evs, evP, evB, intsOf, fillC, Value.cells, pt, List.append_nil, List.nil_append, List.cons_append, List.length_cons, List.length_nil, List.filter_nil, List.map_nil, ↓List.getElem?_cons_zero, ↓List.getElem?_cons_succ, List.getElem?_cons_zero, List.getElem?_cons_succ, List.set_cons_zero, List.set_cons_succ, Option.join_some, Option.join_none, Option.map_some, List.all_cons, List.all_nil, Value.oneCell', reduceIte, reduceCtorEq, Nat.reduceEqDiff, Nat.reduceAdd, Nat.reduceMul, Nat.reduceLT, Nat.reduceBEq, Nat.reduceLeDiff, Nat.reduceSub, List.size_toArray] -- r2 law.go:213
  refine ITri.condD (by rfl) (fun h2 => ?_) (fun h2 => ?_) -- %9
  rotate_left
  · refine ITri.exit ?_; try simp -implicitDefEqProofs (disch := first | decide | exact of_eq_true (eq_true rfl) | omega | assumption) only [ ↓vcD, vcE, evs, evP, evB, intsOf, fillC, Value.cells, pt, List.append_nil, List.nil_append, List.cons_append, List.length_cons, List.length_nil, List.filter_nil, List.map_nil, ↓List.getElem?_cons_zero, ↓List.getElem?_cons_succ, List.getElem?_cons_zero, List.getElem?_cons_succ, List.set_cons_zero, List.set_cons_succ, Option.join_some, Option.join_none, Option.map_some, List.all_cons, List.all_nil, Value.oneCell', reduceIte, reduceCtorEq, Nat.reduceEqDiff, Nat.reduceAdd, Nat.reduceMul, Nat.reduceLT, Nat.reduceBEq, Nat.reduceLeDiff, Nat.reduceSub, List.size_toArray] -- exit 0
    refine ITri.seq ?_
    refine ITri.reg pokT ?_; simp -implicitDefEqProofs (disch := first | decide | exact of_eq_true (eq_true rfl) | omega | assumption) only [ ↓vcD, vcE, evs, evP, evB, intsOf, fillC, Value.cells, pt, List.append_nil, List.nil_append, List.cons_append, List.length_cons, List.length_nil, List.filter_nil, List.map_nil, ↓List.getElem?_cons_zero, ↓List.getElem?_cons_succ, List.getElem?_cons_zero, List.getElem?_cons_succ, List.set_cons_zero, List.set_cons_succ, Option.join_some, Option.join_none, Option.map_some, List.all_cons, List.all_nil, Value.oneCell', reduceIte, reduceCtorEq, Nat.reduceEqDiff, Nat.reduceAdd, Nat.reduceMul, Nat.reduceLT, Nat.reduceBEq, Nat.reduceLeDiff, Nat.reduceSub, List.size_toArray] -- r7 law.go:219
    refine ITri.ret ?_; exact EndR.plain (by simp) (by rfl) (by unfold litB; rw [allB_yes (fun j h => hj j (by omega))]; rfl) (by rfl)
  have hkn : k < l.length := by omega
  refine ITri.skip ?_; simp only [SeqQ_normal, BlkQ_normal]
  refine ITri.seq ?_
  refine ITri.block ?_ -- 1
  refine ITri.seq ?_
  have e4 : ∀ x, takeC (eT x) 0 4 = some (eT x) := fun x => rfl
  have e5 : ∀ x, (eT x).all Value.oneCell' = true := fun x => rfl
  have e6 : ∀ x, (eT x).length = 4 := fun x => rfl
  refine ITri.reg pokT ?_; simp -implicitDefEqProofs (disch := first | decide | exact of_eq_true (eq_true rfl) | omega | assumption) only [takeT, e4, e5, e6,  ↓vcD, vcE, evs, evP, evB, intsOf, fillC, Value.cells, pt, List.append_nil, List.nil_append, List.cons_append, List.length_cons, List.length_nil, List.filter_nil, List.map_nil, ↓List.getElem?_cons_zero, ↓List.getElem?_cons_succ, List.getElem?_cons_zero, List.getElem?_cons_succ, List.set_cons_zero, List.set_cons_succ, Option.join_some, Option.join_none, Option.map_some, List.all_cons, List.all_nil, Value.oneCell', reduceIte, reduceCtorEq, Nat.reduceEqDiff, Nat.reduceAdd, Nat.reduceMul, Nat.reduceLT, Nat.reduceBEq, Nat.reduceLeDiff, Nat.reduceSub, List.size_toArray] -- r4 law.go:214
  refine ITri.seq ?_
  have no : smB (nth l k) = false → litB l tol = false := fun h => by unfold litB; rw [allB_not hkn h]; rfl
  refine ITri.reg pokT ?_; simp -implicitDefEqProofs (disch := first | decide | exact of_eq_true (eq_true rfl) | omega | assumption) only [e4,  ↓vcD, vcE, evs, evP, evB, intsOf, fillC, Value.cells, pt, List.append_nil, List.nil_append, List.cons_append, List.length_cons, List.length_nil, List.filter_nil, List.map_nil, ↓List.getElem?_cons_zero, ↓List.getElem?_cons_succ, List.getElem?_cons_zero, List.getElem?_cons_succ, List.set_cons_zero, List.set_cons_succ, Option.join_some, Option.join_none, Option.map_some, List.all_cons, List.all_nil, Value.oneCell', reduceIte, reduceCtorEq, Nat.reduceEqDiff, Nat.reduceAdd, Nat.reduceMul, Nat.reduceLT, Nat.reduceBEq, Nat.reduceLeDiff, Nat.reduceSub, List.size_toArray]
  refine ⟨_, _, refTilt_f (nth l k) (sees0 rfl (of_decide_eq_true rfl)), ?_⟩
  have eb : smB (nth l k) = (tltB (nth l k) && decide (-8 ≤ (nth l k).1) && decide ((nth l k).2.1 ≤ 8) && decide (-8 ≤ (nth l k).2.2.1) && decide ((nth l k).2.2.2 ≤ 8)) := rfl
  cases g1 : tltB (nth l k) with
  | false =>
    simp -implicitDefEqProofs (disch := first | decide | exact of_eq_true (eq_true rfl) | omega | assumption) only [g1,  ↓vcD, vcE, evs, evP, evB, intsOf, fillC, Value.cells, pt, List.append_nil, List.nil_append, List.cons_append, List.length_cons, List.length_nil, List.filter_nil, List.map_nil, ↓List.getElem?_cons_zero, ↓List.getElem?_cons_succ, List.getElem?_cons_zero, List.getElem?_cons_succ, List.set_cons_zero, List.set_cons_succ, Option.join_some, Option.join_none, Option.map_some, List.all_cons, List.all_nil, Value.oneCell', reduceIte, reduceCtorEq, Nat.reduceEqDiff, Nat.reduceAdd, Nat.reduceMul, Nat.reduceLT, Nat.reduceBEq, Nat.reduceLeDiff, Nat.reduceSub, List.size_toArray]
    refine ITri.cond (v := true) rfl (fun _ => ?_) (fun h => by cases h)
    refine ITri.seq ?_
    refine ITri.reg pokT ?_; simp -implicitDefEqProofs (disch := first | decide | exact of_eq_true (eq_true rfl) | omega | assumption) only [ ↓vcD, vcE, evs, evP, evB, intsOf, fillC, Value.cells, pt, List.append_nil, List.nil_append, List.cons_append, List.length_cons, List.length_nil, List.filter_nil, List.map_nil, ↓List.getElem?_cons_zero, ↓List.getElem?_cons_succ, List.getElem?_cons_zero, List.getElem?_cons_succ, List.set_cons_zero, List.set_cons_succ, Option.join_some, Option.join_none, Option.map_some, List.all_cons, List.all_nil, Value.oneCell', reduceIte, reduceCtorEq, Nat.reduceEqDiff, Nat.reduceAdd, Nat.reduceMul, Nat.reduceLT, Nat.reduceBEq, Nat.reduceLeDiff, Nat.reduceSub, List.size_toArray]
    refine ITri.ret ?_; exact EndR.plain (by simp) (by rfl) (by rw [no (by rw [eb, g1]; rfl)]; rfl) (by rfl)
  | true =>
  by_cases g2 : (nth l k).1 < -8
  · simp -implicitDefEqProofs (disch := first | decide | exact of_eq_true (eq_true rfl) | omega | assumption) only [eT, g1, g2, decide_true,  ↓vcD, vcE, evs, evP, evB, intsOf, fillC, Value.cells, pt, List.append_nil, List.nil_append, List.cons_append, List.length_cons, List.length_nil, List.filter_nil, List.map_nil, ↓List.getElem?_cons_zero, ↓List.getElem?_cons_succ, List.getElem?_cons_zero, List.getElem?_cons_succ, List.set_cons_zero, List.set_cons_succ, Option.join_some, Option.join_none, Option.map_some, List.all_cons, List.all_nil, Value.oneCell', reduceIte, reduceCtorEq, Nat.reduceEqDiff, Nat.reduceAdd, Nat.reduceMul, Nat.reduceLT, Nat.reduceBEq, Nat.reduceLeDiff, Nat.reduceSub, List.size_toArray]
    refine ITri.cond (v := true) rfl (fun _ => ?_) (fun h => by cases h)
    refine ITri.seq ?_
    refine ITri.reg pokT ?_; simp -implicitDefEqProofs (disch := first | decide | exact of_eq_true (eq_true rfl) | omega | assumption) only [ ↓vcD, vcE, evs, evP, evB, intsOf, fillC, Value.cells, pt, List.append_nil, List.nil_append, List.cons_append, List.length_cons, List.length_nil, List.filter_nil, List.map_nil, ↓List.getElem?_cons_zero, ↓List.getElem?_cons_succ, List.getElem?_cons_zero, List.getElem?_cons_succ, List.set_cons_zero, List.set_cons_succ, Option.join_some, Option.join_none, Option.map_some, List.all_cons, List.all_nil, Value.oneCell', reduceIte, reduceCtorEq, Nat.reduceEqDiff, Nat.reduceAdd, Nat.reduceMul, Nat.reduceLT, Nat.reduceBEq, Nat.reduceLeDiff, Nat.reduceSub, List.size_toArray]
    refine ITri.ret ?_; exact EndR.plain (by simp) (by rfl) (by rw [no (by rw [eb, decide_eq_false (show ¬ -8 ≤ (nth l k).1 by omega)]; simp)]; rfl) (by rfl)
  by_cases g3 : 8 < (nth l k).2.1
  · simp -implicitDefEqProofs (disch := first | decide | exact of_eq_true (eq_true rfl) | omega | assumption) only [eT, g1, g2, g3, decide_true, decide_false,  ↓vcD, vcE, evs, evP, evB, intsOf, fillC, Value.cells, pt, List.append_nil, List.nil_append, List.cons_append, List.length_cons, List.length_nil, List.filter_nil, List.map_nil, ↓List.getElem?_cons_zero, ↓List.getElem?_cons_succ, List.getElem?_cons_zero, List.getElem?_cons_succ, List.set_cons_zero, List.set_cons_succ, Option.join_some, Option.join_none, Option.map_some, List.all_cons, List.all_nil, Value.oneCell', reduceIte, reduceCtorEq, Nat.reduceEqDiff, Nat.reduceAdd, Nat.reduceMul, Nat.reduceLT, Nat.reduceBEq, Nat.reduceLeDiff, Nat.reduceSub, List.size_toArray]
    refine ITri.cond (v := true) rfl (fun _ => ?_) (fun h => by cases h)
    refine ITri.seq ?_
    refine ITri.reg pokT ?_; simp -implicitDefEqProofs (disch := first | decide | exact of_eq_true (eq_true rfl) | omega | assumption) only [ ↓vcD, vcE, evs, evP, evB, intsOf, fillC, Value.cells, pt, List.append_nil, List.nil_append, List.cons_append, List.length_cons, List.length_nil, List.filter_nil, List.map_nil, ↓List.getElem?_cons_zero, ↓List.getElem?_cons_succ, List.getElem?_cons_zero, List.getElem?_cons_succ, List.set_cons_zero, List.set_cons_succ, Option.join_some, Option.join_none, Option.map_some, List.all_cons, List.all_nil, Value.oneCell', reduceIte, reduceCtorEq, Nat.reduceEqDiff, Nat.reduceAdd, Nat.reduceMul, Nat.reduceLT, Nat.reduceBEq, Nat.reduceLeDiff, Nat.reduceSub, List.size_toArray]
    refine ITri.ret ?_; exact EndR.plain (by simp) (by rfl) (by rw [no (by rw [eb, decide_eq_false (show ¬ (nth l k).2.1 ≤ 8 by omega)]; simp)]; rfl) (by rfl)
  by_cases g4 : (nth l k).2.2.1 < -8
  · simp -implicitDefEqProofs (disch := first | decide | exact of_eq_true (eq_true rfl) | omega | assumption) only [eT, g1, g2, g3, g4, decide_true, decide_false,  ↓vcD, vcE, evs, evP, evB, intsOf, fillC, Value.cells, pt, List.append_nil, List.nil_append, List.cons_append, List.length_cons, List.length_nil, List.filter_nil, List.map_nil, ↓List.getElem?_cons_zero, ↓List.getElem?_cons_succ, List.getElem?_cons_zero, List.getElem?_cons_succ, List.set_cons_zero, List.set_cons_succ, Option.join_some, Option.join_none, Option.map_some, List.all_cons, List.all_nil, Value.oneCell', reduceIte, reduceCtorEq, Nat.reduceEqDiff, Nat.reduceAdd, Nat.reduceMul, Nat.reduceLT, Nat.reduceBEq, Nat.reduceLeDiff, Nat.reduceSub, List.size_toArray]
    refine ITri.cond (v := true) rfl (fun _ => ?_) (fun h => by cases h)
    refine ITri.seq ?_
    refine ITri.reg pokT ?_; simp -implicitDefEqProofs (disch := first | decide | exact of_eq_true (eq_true rfl) | omega | assumption) only [ ↓vcD, vcE, evs, evP, evB, intsOf, fillC, Value.cells, pt, List.append_nil, List.nil_append, List.cons_append, List.length_cons, List.length_nil, List.filter_nil, List.map_nil, ↓List.getElem?_cons_zero, ↓List.getElem?_cons_succ, List.getElem?_cons_zero, List.getElem?_cons_succ, List.set_cons_zero, List.set_cons_succ, Option.join_some, Option.join_none, Option.map_some, List.all_cons, List.all_nil, Value.oneCell', reduceIte, reduceCtorEq, Nat.reduceEqDiff, Nat.reduceAdd, Nat.reduceMul, Nat.reduceLT, Nat.reduceBEq, Nat.reduceLeDiff, Nat.reduceSub, List.size_toArray]
    refine ITri.ret ?_; exact EndR.plain (by simp) (by rfl) (by rw [no (by rw [eb, decide_eq_false (show ¬ -8 ≤ (nth l k).2.2.1 by omega)]; simp)]; rfl) (by rfl)
  by_cases g5 : 8 < (nth l k).2.2.2
  · simp -implicitDefEqProofs (disch := first | decide | exact of_eq_true (eq_true rfl) | omega | assumption) only [eT, g1, g2, g3, g4, g5, decide_true, decide_false,  ↓vcD, vcE, evs, evP, evB, intsOf, fillC, Value.cells, pt, List.append_nil, List.nil_append, List.cons_append, List.length_cons, List.length_nil, List.filter_nil, List.map_nil, ↓List.getElem?_cons_zero, ↓List.getElem?_cons_succ, List.getElem?_cons_zero, List.getElem?_cons_succ, List.set_cons_zero, List.set_cons_succ, Option.join_some, Option.join_none, Option.map_some, List.all_cons, List.all_nil, Value.oneCell', reduceIte, reduceCtorEq, Nat.reduceEqDiff, Nat.reduceAdd, Nat.reduceMul, Nat.reduceLT, Nat.reduceBEq, Nat.reduceLeDiff, Nat.reduceSub, List.size_toArray]
    refine ITri.cond (v := true) rfl (fun _ => ?_) (fun h => by cases h)
    refine ITri.seq ?_
    refine ITri.reg pokT ?_; simp -implicitDefEqProofs (disch := first | decide | exact of_eq_true (eq_true rfl) | omega | assumption) only [ ↓vcD, vcE, evs, evP, evB, intsOf, fillC, Value.cells, pt, List.append_nil, List.nil_append, List.cons_append, List.length_cons, List.length_nil, List.filter_nil, List.map_nil, ↓List.getElem?_cons_zero, ↓List.getElem?_cons_succ, List.getElem?_cons_zero, List.getElem?_cons_succ, List.set_cons_zero, List.set_cons_succ, Option.join_some, Option.join_none, Option.map_some, List.all_cons, List.all_nil, Value.oneCell', reduceIte, reduceCtorEq, Nat.reduceEqDiff, Nat.reduceAdd, Nat.reduceMul, Nat.reduceLT, Nat.reduceBEq, Nat.reduceLeDiff, Nat.reduceSub, List.size_toArray]
    refine ITri.ret ?_; exact EndR.plain (by simp) (by rfl) (by rw [no (by rw [eb, decide_eq_false (show ¬ (nth l k).2.2.2 ≤ 8 by omega)]; simp)]; rfl) (by rfl)
  simp -implicitDefEqProofs (disch := first | decide | exact of_eq_true (eq_true rfl) | omega | assumption) only [eT, g1, g2, g3, g4, g5, decide_true, decide_false,  ↓vcD, vcE, evs, evP, evB, intsOf, fillC, Value.cells, pt, List.append_nil, List.nil_append, List.cons_append, List.length_cons, List.length_nil, List.filter_nil, List.map_nil, ↓List.getElem?_cons_zero, ↓List.getElem?_cons_succ, List.getElem?_cons_zero, List.getElem?_cons_succ, List.set_cons_zero, List.set_cons_succ, Option.join_some, Option.join_none, Option.map_some, List.all_cons, List.all_nil, Value.oneCell', reduceIte, reduceCtorEq, Nat.reduceEqDiff, Nat.reduceAdd, Nat.reduceMul, Nat.reduceLT, Nat.reduceBEq, Nat.reduceLeDiff, Nat.reduceSub, List.size_toArray]
  refine ITri.cond (v := false) rfl (fun h => by cases h) (fun _ => ?_); refine ITri.skip ?_; simp only [SeqQ_normal, BlkQ_normal]
  refine ITri.reg pokT ?_; simp -implicitDefEqProofs (disch := first | decide | exact of_eq_true (eq_true rfl) | omega | assumption) only [ ↓vcD, vcE, evs, evP, evB, intsOf, fillC, Value.cells, pt, List.append_nil, List.nil_append, List.cons_append, List.length_cons, List.length_nil, List.filter_nil, List.map_nil, ↓List.getElem?_cons_zero, ↓List.getElem?_cons_succ, List.getElem?_cons_zero, List.getElem?_cons_succ, List.set_cons_zero, List.set_cons_succ, Option.join_some, Option.join_none, Option.map_some, List.all_cons, List.all_nil, Value.oneCell', reduceIte, reduceCtorEq, Nat.reduceEqDiff, Nat.reduceAdd, Nat.reduceMul, Nat.reduceLT, Nat.reduceBEq, Nat.reduceLeDiff, Nat.reduceSub, List.size_toArray]
  refine LoopQ.next (k + 1) ⟨by omega, fun j hj2 => ?_⟩ (by omega) (Wk.gc [0, 1, 2] [] (of_decide_eq_true rfl) (of_decide_eq_true rfl) rfl rfl (of_decide_eq_true rfl) rfl rfl (fun _ h => by cases h) rfl (by simp -implicitDefEqProofs (disch := first | decide | exact of_eq_true (eq_true rfl) | omega | assumption) only [objOK, sgL, xiL, objAt, nilO, OM, mvL, mv, mvS, okS, okP, mvL_rows, okML, okM, okML_rows, List.getElem?_cons_zero, Option.getD_some, implies_true, imp_self, ne_eq, and_self, ↓vcD, vcE, evs, evP, evB, intsOf, fillC, Value.cells, pt, List.append_nil, List.nil_append, List.cons_append, List.length_cons, List.length_nil, List.filter_nil, List.map_nil, ↓List.getElem?_cons_zero, ↓List.getElem?_cons_succ, List.getElem?_cons_zero, List.getElem?_cons_succ, List.set_cons_zero, List.set_cons_succ, Option.join_some, Option.join_none, Option.map_some, List.all_cons, List.all_nil, Value.oneCell', reduceIte, reduceCtorEq, Nat.reduceEqDiff, Nat.reduceAdd, Nat.reduceMul, Nat.reduceLT, Nat.reduceBEq, Nat.reduceLeDiff, Nat.reduceSub, List.size_toArray]) (by simp -implicitDefEqProofs (disch := first | decide | exact of_eq_true (eq_true rfl) | omega | assumption) only [ valOK, sgL, xiL, mv, mvA, mvL, mvS, okS, okP, okM, okMA, okML, Option.getD_some, implies_true, and_self, Int.natCast_add, Int.cast_ofNat_Int, ↓vcD, vcE, evs, evP, evB, intsOf, fillC, Value.cells, pt, List.append_nil, List.nil_append, List.cons_append, List.length_cons, List.length_nil, List.filter_nil, List.map_nil, ↓List.getElem?_cons_zero, ↓List.getElem?_cons_succ, List.getElem?_cons_zero, List.getElem?_cons_succ, List.set_cons_zero, List.set_cons_succ, Option.join_some, Option.join_none, Option.map_some, List.all_cons, List.all_nil, Value.oneCell', reduceIte, reduceCtorEq, Nat.reduceEqDiff, Nat.reduceAdd, Nat.reduceMul, Nat.reduceLT, Nat.reduceBEq, Nat.reduceLeDiff, Nat.reduceSub, List.size_toArray]) (fun _ h => by cases h) ⟨rfl, fun _ h => by cases h⟩)
  rcases Nat.lt_or_ge j k with q | q
  · exact hj j q
  · obtain rfl : j = k := by omega
    rw [eb, g1, decide_eq_true (by omega), decide_eq_true (by omega), decide_eq_true (by omega), decide_eq_true (by omega)]
    rfl
theorem little_f (n : Nat) (l : List Tl) (tol sx sy : Int) (hn : l.length = n) (hb : n ≤ 1000000) {h : AH} {s : Value} (h0 : h.sees 0 = true) (r : Rd h s n (rows eT l)) :
    Fc Try.prog 42 [.agg #[s, .int .i64 tol, .int .i64 sx, .int .i64 sy]] h (.bool (litB l tol)) h :=
  Fc.lift1 (mk := fun ss => .agg ⟨ss ++ [.int .i64 tol, .int .i64 sx, .int .i64 sy]⟩ :: []) (mkv := fun _ => .bool (litB l tol)) (os := []) (fun c => little_c n c l tol sx sy hn hb) (MkL.agg1 (MkL.app rfl) rfl) (MkV.const rfl) (rows_no (f := eT) l) (fun o ho => by cases ho) h0 r
theorem sameI_c (n c m d : Nat) (a b : List Int) (hn : a.length = n) (hm : b.length = m) (hb : n ≤ 1000000) : Fc Try.prog 44 [sT n c, .slice (some ⟨2, 0, none⟩) m d] (Hp 3 [none, some (.cells ⟨rows eN a, 0, false⟩), some (.cells ⟨rows eN b, 0, false⟩)]) (.bool (decide (a = b))) (Hp 3 [none, some (.cells ⟨rows eN a, 0, false⟩), some (.cells ⟨rows eN b, 0, false⟩)]) := by
  refine Fc.intro0 fn44 (by simp) rfl rfl ?_; simp only [argF]
  refine ITri.seq ?_
  refine ITri.reg pokT ?_; simp -implicitDefEqProofs (disch := first | decide | exact of_eq_true (eq_true rfl) | omega | assumption) only [ ↓vcD, vcE, evs, evP, evB, intsOf, fillC, Value.cells, pt, List.append_nil, List.nil_append, List.cons_append, List.length_cons, List.length_nil, List.filter_nil, List.map_nil, ↓List.getElem?_cons_zero, ↓List.getElem?_cons_succ, List.getElem?_cons_zero, List.getElem?_cons_succ, List.set_cons_zero, List.set_cons_succ, Option.join_some, Option.join_none, Option.map_some, List.all_cons, List.all_nil, Value.oneCell', reduceIte, reduceCtorEq, Nat.reduceEqDiff, Nat.reduceAdd, Nat.reduceMul, Nat.reduceLT, Nat.reduceBEq, Nat.reduceLeDiff, Nat.reduceSub, List.size_toArray] -- r0 law.go:38
  refine ITri.seq ?_
  refine ITri.seq ?_
  refine ITri.reg pokT ?_; simp -implicitDefEqProofs (disch := first | decide | exact of_eq_true (eq_true rfl) | omega | assumption) only [ ↓vcD, vcE, evs, evP, evB, intsOf, fillC, Value.cells, pt, List.append_nil, List.nil_append, List.cons_append, List.length_cons, List.length_nil, List.filter_nil, List.map_nil, ↓List.getElem?_cons_zero, ↓List.getElem?_cons_succ, List.getElem?_cons_zero, List.getElem?_cons_succ, List.set_cons_zero, List.set_cons_succ, Option.join_some, Option.join_none, Option.map_some, List.all_cons, List.all_nil, Value.oneCell', reduceIte, reduceCtorEq, Nat.reduceEqDiff, Nat.reduceAdd, Nat.reduceMul, Nat.reduceLT, Nat.reduceBEq, Nat.reduceLeDiff, Nat.reduceSub, List.size_toArray] -- r1 law.go:39
  refine ITri.condN (by rfl) (fun h1 => ?_) (fun h1 => ?_) -- %10
  · refine ITri.seq ?_
    refine ITri.reg pokT ?_; simp -implicitDefEqProofs (disch := first | decide | exact of_eq_true (eq_true rfl) | omega | assumption) only [ ↓vcD, vcE, evs, evP, evB, intsOf, fillC, Value.cells, pt, List.append_nil, List.nil_append, List.cons_append, List.length_cons, List.length_nil, List.filter_nil, List.map_nil, ↓List.getElem?_cons_zero, ↓List.getElem?_cons_succ, List.getElem?_cons_zero, List.getElem?_cons_succ, List.set_cons_zero, List.set_cons_succ, Option.join_some, Option.join_none, Option.map_some, List.all_cons, List.all_nil, Value.oneCell', reduceIte, reduceCtorEq, Nat.reduceEqDiff, Nat.reduceAdd, Nat.reduceMul, Nat.reduceLT, Nat.reduceBEq, Nat.reduceLeDiff, Nat.reduceSub, List.size_toArray] -- r2 law.go:40
    refine ITri.ret ?_; exact EndR.plain (by simp) (by rfl) (by rw [decide_eq_false (fun e => h1 (by rw [← hn, ← hm, e]))]; rfl) (by rfl)
  refine ITri.skip ?_; simp only [SeqQ_normal, BlkQ_normal]
  refine ITri.seq ?_
  refine ITri.seq ?_
  refine ITri.reg pokT ?_; simp -implicitDefEqProofs (disch := first | decide | exact of_eq_true (eq_true rfl) | omega | assumption) only [ ↓vcD, vcE, evs, evP, evB, intsOf, fillC, Value.cells, pt, List.append_nil, List.nil_append, List.cons_append, List.length_cons, List.length_nil, List.filter_nil, List.map_nil, ↓List.getElem?_cons_zero, ↓List.getElem?_cons_succ, List.getElem?_cons_zero, List.getElem?_cons_succ, List.set_cons_zero, List.set_cons_succ, Option.join_some, Option.join_none, Option.map_some, List.all_cons, List.all_nil, Value.oneCell', reduceIte, reduceCtorEq, Nat.reduceEqDiff, Nat.reduceAdd, Nat.reduceMul, Nat.reduceLT, Nat.reduceBEq, Nat.reduceLeDiff, Nat.reduceSub, List.size_toArray] -- r3 law.go:42
  refine ITri.block ?_ -- 0
  refine ITri.loop (fun k : Nat => [(0, sT n c), (1, .slice (some ⟨2, 0, none⟩) m d), (5, .int .i64 k)]) (fun _ => []) (fun k => Hp 3 [none, some (.cells ⟨rows eN a, 0, false⟩), some (.cells ⟨rows eN b, 0, false⟩)]) (fun k => k ≤ n ∧ ∀ j, j < k → nth a j = nth b j) (fun k => n - k) 0 ⟨Nat.zero_le _, fun j hj => by omega⟩ (Wk.sub ⟨rfl, rfl, rfl, trivial⟩) fun k hk => ?_
  obtain ⟨hk1, hk2⟩ := hk
  refine ITri.seq ?_
  refine ITri.seq ?_
  refine ITri.reg pokT ?_; simp -implicitDefEqProofs (disch := first | decide | exact of_eq_true (eq_true rfl) | omega | assumption) only [ ↓vcD, vcE, evs, evP, evB, intsOf, fillC, Value.cells, pt, List.append_nil, List.nil_append, List.cons_append, List.length_cons, List.length_nil, List.filter_nil, List.map_nil, ↓List.getElem?_cons_zero, ↓List.getElem?_cons_succ, List.getElem?_cons_zero, List.getElem?_cons_succ, List.set_cons_zero, List.set_cons_succ, Option.join_some, Option.join_none, Option.map_some, List.all_cons, List.all_nil, Value.oneCell', reduceIte, reduceCtorEq, Nat.reduceEqDiff, Nat.reduceAdd, Nat.reduceMul, Nat.reduceLT, Nat.reduceBEq, Nat.reduceLeDiff, Nat.reduceSub, List.size_toArray] -- r4 law.go:42
  refine ITri.condD (by rfl) (fun h3 => ?_) (fun h3 => ?_) -- %14
  · have ha : k < a.length := by omega
    have hb2 : k < b.length := by omega
    refine ITri.skip ?_; simp only [SeqQ_normal, BlkQ_normal]
    refine ITri.seq ?_
    refine ITri.block ?_ -- 1
    refine ITri.seq ?_
    refine ITri.draw pokT ?_; simp -implicitDefEqProofs (disch := first | decide | exact of_eq_true (eq_true rfl) | omega | assumption) only [getN,  ↓vcD, vcE, evs, evP, evB, intsOf, fillC, Value.cells, pt, List.append_nil, List.nil_append, List.cons_append, List.length_cons, List.length_nil, List.filter_nil, List.map_nil, ↓List.getElem?_cons_zero, ↓List.getElem?_cons_succ, List.getElem?_cons_zero, List.getElem?_cons_succ, List.set_cons_zero, List.set_cons_succ, Option.join_some, Option.join_none, Option.map_some, List.all_cons, List.all_nil, Value.oneCell', reduceIte, reduceCtorEq, Nat.reduceEqDiff, Nat.reduceAdd, Nat.reduceMul, Nat.reduceLT, Nat.reduceBEq, Nat.reduceLeDiff, Nat.reduceSub, List.size_toArray] -- r6 law.go:43
    refine ITri.condN (by rfl) (fun h4 => ?_) (fun h4 => ?_) -- %25
    · refine ITri.seq ?_
      refine ITri.reg pokT ?_; simp -implicitDefEqProofs (disch := first | decide | exact of_eq_true (eq_true rfl) | omega | assumption) only [ ↓vcD, vcE, evs, evP, evB, intsOf, fillC, Value.cells, pt, List.append_nil, List.nil_append, List.cons_append, List.length_cons, List.length_nil, List.filter_nil, List.map_nil, ↓List.getElem?_cons_zero, ↓List.getElem?_cons_succ, List.getElem?_cons_zero, List.getElem?_cons_succ, List.set_cons_zero, List.set_cons_succ, Option.join_some, Option.join_none, Option.map_some, List.all_cons, List.all_nil, Value.oneCell', reduceIte, reduceCtorEq, Nat.reduceEqDiff, Nat.reduceAdd, Nat.reduceMul, Nat.reduceLT, Nat.reduceBEq, Nat.reduceLeDiff, Nat.reduceSub, List.size_toArray] -- r7 law.go:44
      refine ITri.ret ?_; exact EndR.plain (by simp) (by rfl) (by rw [decide_eq_false (fun e => h4 (by rw [e]))]; rfl) (by rfl)
    refine ITri.skip ?_; simp only [SeqQ_normal, BlkQ_normal]
    refine ITri.reg pokT ?_; simp -implicitDefEqProofs (disch := first | decide | exact of_eq_true (eq_true rfl) | omega | assumption) only [ ↓vcD, vcE, evs, evP, evB, intsOf, fillC, Value.cells, pt, List.append_nil, List.nil_append, List.cons_append, List.length_cons, List.length_nil, List.filter_nil, List.map_nil, ↓List.getElem?_cons_zero, ↓List.getElem?_cons_succ, List.getElem?_cons_zero, List.getElem?_cons_succ, List.set_cons_zero, List.set_cons_succ, Option.join_some, Option.join_none, Option.map_some, List.all_cons, List.all_nil, Value.oneCell', reduceIte, reduceCtorEq, Nat.reduceEqDiff, Nat.reduceAdd, Nat.reduceMul, Nat.reduceLT, Nat.reduceBEq, Nat.reduceLeDiff, Nat.reduceSub, List.size_toArray] -- r5 law.go:42
    refine LoopQ.next (k + 1) ⟨by omega, fun j hj => ?_⟩ (by omega) (Wk.sub ⟨rfl, rfl, rfl, trivial⟩)
    rcases Nat.lt_or_ge j k with q | q
    · exact hk2 j q
    · obtain rfl : j = k := by omega
      simpa using h4
  refine ITri.exit ?_; try simp -implicitDefEqProofs (disch := first | decide | exact of_eq_true (eq_true rfl) | omega | assumption) only [ ↓vcD, vcE, evs, evP, evB, intsOf, fillC, Value.cells, pt, List.append_nil, List.nil_append, List.cons_append, List.length_cons, List.length_nil, List.filter_nil, List.map_nil, ↓List.getElem?_cons_zero, ↓List.getElem?_cons_succ, List.getElem?_cons_zero, List.getElem?_cons_succ, List.set_cons_zero, List.set_cons_succ, Option.join_some, Option.join_none, Option.map_some, List.all_cons, List.all_nil, Value.oneCell', reduceIte, reduceCtorEq, Nat.reduceEqDiff, Nat.reduceAdd, Nat.reduceMul, Nat.reduceLT, Nat.reduceBEq, Nat.reduceLeDiff, Nat.reduceSub, List.size_toArray]
  refine ITri.seq ?_
  refine ITri.reg pokT ?_; simp -implicitDefEqProofs (disch := first | decide | exact of_eq_true (eq_true rfl) | omega | assumption) only [ ↓vcD, vcE, evs, evP, evB, intsOf, fillC, Value.cells, pt, List.append_nil, List.nil_append, List.cons_append, List.length_cons, List.length_nil, List.filter_nil, List.map_nil, ↓List.getElem?_cons_zero, ↓List.getElem?_cons_succ, List.getElem?_cons_zero, List.getElem?_cons_succ, List.set_cons_zero, List.set_cons_succ, Option.join_some, Option.join_none, Option.map_some, List.all_cons, List.all_nil, Value.oneCell', reduceIte, reduceCtorEq, Nat.reduceEqDiff, Nat.reduceAdd, Nat.reduceMul, Nat.reduceLT, Nat.reduceBEq, Nat.reduceLeDiff, Nat.reduceSub, List.size_toArray] -- r8 law.go:47
  have e : a = b := by
    refine List.ext_getElem (by omega) fun i h1 h2 => ?_
    have := hk2 i (by omega)
    rwa [← (List.getElem?_eq_some_iff.1 (get_nth h1)).2, ← (List.getElem?_eq_some_iff.1 (get_nth h2)).2] at this
  refine ITri.ret ?_; exact EndR.plain (by simp) (by rfl) (by rw [decide_eq_true e]; rfl) (by rfl)
theorem sameI_f (n m : Nat) (a b : List Int) (hn : a.length = n) (hm : b.length = m) (hb : n ≤ 1000000) {h : AH} {s t : Value} (h0 : h.sees 0 = true) (r : Rd h s n (rows eN a)) (r2 : Rd h t m (rows eN b)) :
    Fc Try.prog 44 [s, t] h (.bool (decide (a = b))) h :=
  Fc.lift2 (mk := fun ss => ss ++ []) (mkv := fun _ => .bool (decide (a = b))) (os := []) (fun c d => sameI_c n c m d a b hn hm hb) (MkL.app rfl) (MkV.const rfl) (rows_no (f := eN) a) (rows_no (f := eN) b) (fun o ho => by cases ho) h0 r r2
end Go.Proofs.Ytlkfcbdbieenhaa
