/-
  Chapter 7, turns, by names: Conflict.
-/
import Derived.Test.YtlkfcbdbieenhaaCropT7
set_option linter.unusedSimpArgs false
set_option linter.unusedVariables false
namespace Go.Vm
open Go Go.RowKit
/-- How a function ends that returns one of its own rows, with open room, and a number. -/
theorem end_own2 {P : Program} {rs : List ResultVar} {l : Fr} {L : List (Option AObj)} {k n b sz : Nat} {e : Int} {cs : List Value} (hk : b ≤ k) (hno : noAddrL cs = true) (hL : L[k]? = some (some (.cells ⟨cs, sz, true⟩))) (hr : resF P l (Hp b L) rs = some [.slice (some ⟨k, 0, none⟩) n openB, .int .i64 e]) :
    EndR P rs b [.cells ⟨cs, sz, true⟩] (.tuple #[.slice (some ⟨b, 0, none⟩) n openB, .int .i64 e]) .ret l [] (Hp b L) := by
  refine ⟨by simp, rfl, _, [k], [], hr, rfl, by simp, by simpa using hk, (fun p hp => by cases hp), ?_, ?_, fun i o2 h => .inr ?_⟩
  · show Value.tuple #[_, _] = .tuple ⟨[mvS .same ⟨(fun k' => if k' < b then k' else [k].getD (k' - b) 0) b, 0, none⟩ n openB, _]⟩
    simp [mvS]
    rfl
  · exact ⟨⟨by simp, trivial⟩, trivial, trivial⟩
  · match i, h with
    | 0, h =>
      cases h
      refine ⟨(by intro e; cases e), _, (by show (Hp b L).get k = _; rw [Hp_get, hL]; rfl), ?_⟩
      exact ⟨(mvL_noAddr _ _ _ hno).symm, okML_noAddr _ _ _ hno, fun e => e, fun e => ⟨e, rfl⟩⟩
end Go.Vm
namespace Go.Proofs.Ytlkfcbdbieenhaa
open Go.RowKit Go.Vm
set_option maxRecDepth 100000
/- boule/crop.Conflict · slots 31 · names 0:l 1:tolerance 2:l 3:tolerance 6:e 7:apart 8:many 9:c · results [4, 5] -/
def ir41_r0 : IC := .reg [⟨some 2, none, false, .box (.t 0)⟩,
  ⟨some 3, none, false, .box (.t 1)⟩,
  ⟨some 4, none, false, .mv (.k (.slice none 0 0))⟩,
  ⟨some 5, none, false, .mv (.k (.int .i64 0))⟩] (some [2, 3])
def ir41_r1 : IC := .reg [⟨some 10, none, false, .ldc (.t 2)⟩,
  ⟨some 11, none, false, .ldc (.t 3)⟩,
  ⟨some 12, none, false, .call (.f 70) [(.t 10), (.t 11)]⟩,
  ⟨some 6, none, false, .mv (.t 12)⟩] (some [2, 3, 6])
def ir41_r2 : IC := .reg [⟨some 13, none, false, .mv (.t 6)⟩,
  ⟨some 14, none, false, .cmp .neq (.t 13) (.k (.int .i64 0))⟩] (some [2, 3, 6, 14])
def ir41_r3 : IC := .reg [⟨some 15, none, false, .mv (.t 6)⟩,
  ⟨some 4, none, false, .mv (.k (.slice none 0 0))⟩,
  ⟨some 5, none, false, .mv (.t 15)⟩] (some [4, 5])
def ir41_1 : IC := .seq ir41_r3 .ret
def ir41_2 : IC := .cond (.t 14) ir41_1 .skip
def ir41_3 : IC := .seq ir41_r2 ir41_2
def ir41_4 : IC := .seq ir41_r1 ir41_3
def ir41_r4 : IC := .reg [⟨some 16, none, false, .mkf 73 [] [(.t 2), (.t 3)]⟩,
  ⟨some 7, none, false, .mv (.t 16)⟩] (some [2, 7])
def ir41_r5 : IC := .reg [⟨some 8, none, false, .mv (.k (.int .i64 1))⟩] (some [2, 7, 8])
def ir41_r6 : IC := .reg [⟨some 17, none, false, .mv (.t 8)⟩,
  ⟨some 18, none, false, .ldc (.t 2)⟩,
  ⟨some 19, none, false, .len (.t 18)⟩,
  ⟨some 20, none, false, .cmp .leq (.t 17) (.t 19)⟩] (some [2, 7, 8, 20])
def ir41_5 : IC := .cond (.t 20) .skip (.exit 0)
def ir41_6 : IC := .seq ir41_r6 ir41_5
def ir41_r8 : IC := .reg [⟨some 23, none, false, .ldc (.t 2)⟩,
  ⟨some 24, none, false, .len (.t 23)⟩,
  ⟨some 25, none, false, .mv (.t 8)⟩,
  ⟨some 26, none, false, .mv (.t 7)⟩,
  ⟨some 27, none, false, .call (.f 74) [(.k (.slice none 0 0)), (.k (.int .i64 0)), (.t 24), (.t 25), (.t 26)]⟩,
  ⟨some 9, none, false, .mv (.t 27)⟩] (some [2, 7, 8, 9])
def ir41_r9 : IC := .reg [⟨some 28, none, false, .mv (.t 9)⟩,
  ⟨some 29, none, false, .gen (.binOp .neq 71 (.tmp 28) (.const (.slice none 0 0)) 71)⟩] (some [2, 7, 8, 9, 29])
def ir41_r10 : IC := .reg [⟨some 30, none, false, .mv (.t 9)⟩,
  ⟨some 4, none, false, .mv (.t 30)⟩,
  ⟨some 5, none, false, .mv (.k (.int .i64 0))⟩] (some [4, 5])
def ir41_7 : IC := .seq ir41_r10 .ret
def ir41_8 : IC := .cond (.t 29) ir41_7 .skip
def ir41_9 : IC := .seq ir41_r9 ir41_8
def ir41_10 : IC := .seq ir41_r8 ir41_9
def ir41_11 : IC := .block 1 ir41_10
def ir41_r7 : IC := .reg [⟨some 21, none, false, .mv (.t 8)⟩,
  ⟨some 22, none, false, .ar .add (.t 21) (.k (.int .i64 1))⟩,
  ⟨some 8, none, false, .mv (.t 22)⟩] (some [2, 7, 8])
def ir41_12 : IC := .seq ir41_11 ir41_r7
def ir41_13 : IC := .seq ir41_6 ir41_12
def ir41_14 : IC := .loop ir41_13
def ir41_15 : IC := .block 0 ir41_14
def ir41_16 : IC := .seq ir41_r5 ir41_15
def ir41_r11 : IC := .reg [⟨some 4, none, false, .mv (.k (.slice none 0 0))⟩,
  ⟨some 5, none, false, .mv (.k (.int .i64 73))⟩] (some [4, 5])
def ir41_17 : IC := .seq ir41_r11 .ret
def ir41_18 : IC := .seq ir41_16 ir41_17
def ir41_19 : IC := .seq ir41_r4 ir41_18
def ir41_20 : IC := .seq ir41_4 ir41_19
def ir41_21 : IC := .seq ir41_r0 ir41_20
def ir41 : IC := ir41_21
theorem fn41 : FnIs Try.prog 41 ir41 31 [.tmp 4, .tmp 5] := ⟨Try.f41, Try.f41.body.getD .skip, Try.func41, by kernel_rfl, by kernel_rfl, by kernel_rfl, by kernel_rfl⟩
/-- What Conflict returns. -/
def conR (l : List Tl) (tol : Int) : Option (List Int) := if ckT l tol = 0 then conF (apart l tol) l.length l.length 1 else none
def conE (l : List Tl) (tol : Int) : Int := if ckT l tol = 0 then (if (conR l tol).isSome = true then 0 else 73) else ckT l tol
def slO (kn : Nat) : Option (List Int) → Value
  | none => .slice none 0 0
  | some js => .slice (some ⟨kn, 0, none⟩) js.length openB
def rowO : Option (List Int) → List AObj
  | none => []
  | some js => [.cells ⟨rows eN js, 1, true⟩]
theorem conF_next {p : List Int → Bool} {n : Int} {d m : Nat} (h : (lsM n m 0).find? p = none) : conF p n (d + 1) m = conF p n d (m + 1) := by
  rw [conF, h]
theorem conF_hit {p : List Int → Bool} {n : Int} {d m : Nat} {r : List Int} (h : (lsM n m 0).find? p = some r) : conF p n (d + 1) m = some r := by
  rw [conF, h]
theorem conflict_c (n c : Nat) (l : List Tl) (tol : Int) (hn : l.length = n) : Fc Try.prog 41 [sT n c, .int .i64 tol] (mT (rows eT l)) (.tuple #[slO 2 (conR l tol), .int .i64 (conE l tol)]) ((mT (rows eT l)).news (rowO (conR l tol))) := by
  refine Fc.introR fn41 (by simp) rfl rfl ?_; simp only [argF]
  refine ITri.seq ?_
  refine ITri.reg pokT ?_; simp -implicitDefEqProofs (disch := first | decide | exact of_eq_true (eq_true rfl) | omega | assumption) only [ ↓vcD, vcE, evs, evP, evB, intsOf, fillC, Value.cells, pt, List.append_nil, List.nil_append, List.cons_append, List.length_cons, List.length_nil, List.filter_nil, List.map_nil, ↓List.getElem?_cons_zero, ↓List.getElem?_cons_succ, List.getElem?_cons_zero, List.getElem?_cons_succ, List.set_cons_zero, List.set_cons_succ, Option.join_some, Option.join_none, Option.map_some, List.all_cons, List.all_nil, Value.oneCell', reduceIte, reduceCtorEq, Nat.reduceEqDiff, Nat.reduceAdd, Nat.reduceMul, Nat.reduceLT, Nat.reduceBEq, Nat.reduceLeDiff, Nat.reduceSub, List.size_toArray] -- r0 turn.go:130
  refine ITri.seq ?_
  refine ITri.seq ?_
  refine ITri.reg pokT ?_; simp -implicitDefEqProofs (disch := first | decide | exact of_eq_true (eq_true rfl) | omega | assumption) only [ ↓vcD, vcE, evs, evP, evB, intsOf, fillC, Value.cells, pt, List.append_nil, List.nil_append, List.cons_append, List.length_cons, List.length_nil, List.filter_nil, List.map_nil, ↓List.getElem?_cons_zero, ↓List.getElem?_cons_succ, List.getElem?_cons_zero, List.getElem?_cons_succ, List.set_cons_zero, List.set_cons_succ, Option.join_some, Option.join_none, Option.map_some, List.all_cons, List.all_nil, Value.oneCell', reduceIte, reduceCtorEq, Nat.reduceEqDiff, Nat.reduceAdd, Nat.reduceMul, Nat.reduceLT, Nat.reduceBEq, Nat.reduceLeDiff, Nat.reduceSub, List.size_toArray] -- r1 turn.go:131 CALLS .call F70 [%10, %11]
  refine ⟨_, _, checkTurn_f n l tol hn (sees0 rfl (of_decide_eq_true rfl)) (Rd.hq rfl rfl), ?_⟩
  try simp -implicitDefEqProofs (disch := first | decide | exact of_eq_true (eq_true rfl) | omega | assumption) only [ ↓vcD, vcE, evs, evP, evB, intsOf, fillC, Value.cells, pt, List.append_nil, List.nil_append, List.cons_append, List.length_cons, List.length_nil, List.filter_nil, List.map_nil, ↓List.getElem?_cons_zero, ↓List.getElem?_cons_succ, List.getElem?_cons_zero, List.getElem?_cons_succ, List.set_cons_zero, List.set_cons_succ, Option.join_some, Option.join_none, Option.map_some, List.all_cons, List.all_nil, Value.oneCell', reduceIte, reduceCtorEq, Nat.reduceEqDiff, Nat.reduceAdd, Nat.reduceMul, Nat.reduceLT, Nat.reduceBEq, Nat.reduceLeDiff, Nat.reduceSub, List.size_toArray]
  refine ITri.seq ?_
  by_cases g : ckT l tol = 0
  rotate_left
  · refine ITri.reg pokT ?_; simp -implicitDefEqProofs (disch := first | decide | exact of_eq_true (eq_true rfl) | omega | assumption) only [g, decide_false,  ↓vcD, vcE, evs, evP, evB, intsOf, fillC, Value.cells, pt, List.append_nil, List.nil_append, List.cons_append, List.length_cons, List.length_nil, List.filter_nil, List.map_nil, ↓List.getElem?_cons_zero, ↓List.getElem?_cons_succ, List.getElem?_cons_zero, List.getElem?_cons_succ, List.set_cons_zero, List.set_cons_succ, Option.join_some, Option.join_none, Option.map_some, List.all_cons, List.all_nil, Value.oneCell', reduceIte, reduceCtorEq, Nat.reduceEqDiff, Nat.reduceAdd, Nat.reduceMul, Nat.reduceLT, Nat.reduceBEq, Nat.reduceLeDiff, Nat.reduceSub, List.size_toArray]
    refine ITri.cond (v := true) rfl (fun _ => ?_) (fun h => by cases h)
    have e1 : conR l tol = none := if_neg g
    have e2 : conE l tol = ckT l tol := if_neg g
    rw [e1, e2]
    refine ITri.seq ?_
    refine ITri.reg pokT ?_; simp -implicitDefEqProofs (disch := first | decide | exact of_eq_true (eq_true rfl) | omega | assumption) only [ ↓vcD, vcE, evs, evP, evB, intsOf, fillC, Value.cells, pt, List.append_nil, List.nil_append, List.cons_append, List.length_cons, List.length_nil, List.filter_nil, List.map_nil, ↓List.getElem?_cons_zero, ↓List.getElem?_cons_succ, List.getElem?_cons_zero, List.getElem?_cons_succ, List.set_cons_zero, List.set_cons_succ, Option.join_some, Option.join_none, Option.map_some, List.all_cons, List.all_nil, Value.oneCell', reduceIte, reduceCtorEq, Nat.reduceEqDiff, Nat.reduceAdd, Nat.reduceMul, Nat.reduceLT, Nat.reduceBEq, Nat.reduceLeDiff, Nat.reduceSub, List.size_toArray]
    refine ITri.ret ?_; exact EndR.plain (vs := [.slice none 0 0, .int .i64 (ckT l tol)]) (by simp) (by rfl) (by rfl) (by rfl)
  obtain ⟨b1, b2, b3, b4, b5⟩ := ck_ok g
  have e1 : conR l tol = conF (apart l tol) n n 1 := by rw [← hn]; exact if_pos g
  have e2 : conE l tol = if (conR l tol).isSome = true then 0 else 73 := if_pos g
  rw [e2]
  generalize conR l tol = o at *
  refine ITri.reg pokT ?_; simp -implicitDefEqProofs (disch := first | decide | exact of_eq_true (eq_true rfl) | omega | assumption) only [g, decide_true,  ↓vcD, vcE, evs, evP, evB, intsOf, fillC, Value.cells, pt, List.append_nil, List.nil_append, List.cons_append, List.length_cons, List.length_nil, List.filter_nil, List.map_nil, ↓List.getElem?_cons_zero, ↓List.getElem?_cons_succ, List.getElem?_cons_zero, List.getElem?_cons_succ, List.set_cons_zero, List.set_cons_succ, Option.join_some, Option.join_none, Option.map_some, List.all_cons, List.all_nil, Value.oneCell', reduceIte, reduceCtorEq, Nat.reduceEqDiff, Nat.reduceAdd, Nat.reduceMul, Nat.reduceLT, Nat.reduceBEq, Nat.reduceLeDiff, Nat.reduceSub, List.size_toArray]
  refine ITri.cond (v := false) rfl (fun h => by cases h) (fun _ => ?_); refine ITri.skip ?_; simp only [SeqQ_normal, BlkQ_normal]
  refine ITri.seq ?_
  refine ITri.reg pokT ?_; simp -implicitDefEqProofs (disch := first | decide | exact of_eq_true (eq_true rfl) | omega | assumption) only [ ↓vcD, vcE, evs, evP, evB, intsOf, fillC, Value.cells, pt, List.append_nil, List.nil_append, List.cons_append, List.length_cons, List.length_nil, List.filter_nil, List.map_nil, ↓List.getElem?_cons_zero, ↓List.getElem?_cons_succ, List.getElem?_cons_zero, List.getElem?_cons_succ, List.set_cons_zero, List.set_cons_succ, Option.join_some, Option.join_none, Option.map_some, List.all_cons, List.all_nil, Value.oneCell', reduceIte, reduceCtorEq, Nat.reduceEqDiff, Nat.reduceAdd, Nat.reduceMul, Nat.reduceLT, Nat.reduceBEq, Nat.reduceLeDiff, Nat.reduceSub, List.size_toArray] -- r4 turn.go:134
  refine ITri.seq ?_
  refine ITri.seq ?_
  refine ITri.reg pokT ?_; simp -implicitDefEqProofs (disch := first | decide | exact of_eq_true (eq_true rfl) | omega | assumption) only [ ↓vcD, vcE, evs, evP, evB, intsOf, fillC, Value.cells, pt, List.append_nil, List.nil_append, List.cons_append, List.length_cons, List.length_nil, List.filter_nil, List.map_nil, ↓List.getElem?_cons_zero, ↓List.getElem?_cons_succ, List.getElem?_cons_zero, List.getElem?_cons_succ, List.set_cons_zero, List.set_cons_succ, Option.join_some, Option.join_none, Option.map_some, List.all_cons, List.all_nil, Value.oneCell', reduceIte, reduceCtorEq, Nat.reduceEqDiff, Nat.reduceAdd, Nat.reduceMul, Nat.reduceLT, Nat.reduceBEq, Nat.reduceLeDiff, Nat.reduceSub, List.size_toArray] -- r5 turn.go:138
  refine ITri.block ?_ -- 0
  refine ITri.loop (fun j : Nat => [(2, pt 2), (7, fnV), (8, .int .i64 (1 + j))]) (fun _ => []) (fun j => Hp 2 [none, some (.cells ⟨rows eT l, 0, false⟩), some (.cells ⟨[sT n c], 1, false⟩), some (.cells ⟨[.int .i64 tol], 1, false⟩)]) (fun j => j ≤ n ∧ conF (apart l tol) n (n - j) (1 + j) = o) (fun j => n - j) 0 ⟨Nat.zero_le _, e1.symm⟩ (Wk.sub ⟨rfl, rfl, rfl, trivial⟩) fun j hj => ?_
  obtain ⟨hj, hC⟩ := hj
  refine ITri.seq ?_
  refine ITri.seq ?_
  refine ITri.reg pokT ?_; simp -implicitDefEqProofs (disch := first | decide | exact of_eq_true (eq_true rfl) | omega | assumption) only [ ↓vcD, vcE, evs, evP, evB, intsOf, fillC, Value.cells, pt, List.append_nil, List.nil_append, List.cons_append, List.length_cons, List.length_nil, List.filter_nil, List.map_nil, ↓List.getElem?_cons_zero, ↓List.getElem?_cons_succ, List.getElem?_cons_zero, List.getElem?_cons_succ, List.set_cons_zero, List.set_cons_succ, Option.join_some, Option.join_none, Option.map_some, List.all_cons, List.all_nil, Value.oneCell', reduceIte, reduceCtorEq, Nat.reduceEqDiff, Nat.reduceAdd, Nat.reduceMul, Nat.reduceLT, Nat.reduceBEq, Nat.reduceLeDiff, Nat.reduceSub, List.size_toArray] -- r6 turn.go:138
  refine ITri.condD (by rfl) (fun h3 => ?_) (fun h3 => ?_) -- %20
  rotate_left
  · refine ITri.exit ?_; try simp -implicitDefEqProofs (disch := first | decide | exact of_eq_true (eq_true rfl) | omega | assumption) only [ ↓vcD, vcE, evs, evP, evB, intsOf, fillC, Value.cells, pt, List.append_nil, List.nil_append, List.cons_append, List.length_cons, List.length_nil, List.filter_nil, List.map_nil, ↓List.getElem?_cons_zero, ↓List.getElem?_cons_succ, List.getElem?_cons_zero, List.getElem?_cons_succ, List.set_cons_zero, List.set_cons_succ, Option.join_some, Option.join_none, Option.map_some, List.all_cons, List.all_nil, Value.oneCell', reduceIte, reduceCtorEq, Nat.reduceEqDiff, Nat.reduceAdd, Nat.reduceMul, Nat.reduceLT, Nat.reduceBEq, Nat.reduceLeDiff, Nat.reduceSub, List.size_toArray] -- exit 0
    refine ITri.seq ?_
    refine ITri.reg pokT ?_; simp -implicitDefEqProofs (disch := first | decide | exact of_eq_true (eq_true rfl) | omega | assumption) only [ ↓vcD, vcE, evs, evP, evB, intsOf, fillC, Value.cells, pt, List.append_nil, List.nil_append, List.cons_append, List.length_cons, List.length_nil, List.filter_nil, List.map_nil, ↓List.getElem?_cons_zero, ↓List.getElem?_cons_succ, List.getElem?_cons_zero, List.getElem?_cons_succ, List.set_cons_zero, List.set_cons_succ, Option.join_some, Option.join_none, Option.map_some, List.all_cons, List.all_nil, Value.oneCell', reduceIte, reduceCtorEq, Nat.reduceEqDiff, Nat.reduceAdd, Nat.reduceMul, Nat.reduceLT, Nat.reduceBEq, Nat.reduceLeDiff, Nat.reduceSub, List.size_toArray] -- r11 turn.go:143
    obtain rfl : n = j := by omega
    rw [Nat.sub_self] at hC
    subst hC
    refine ITri.ret ?_; exact EndR.plain (vs := [.slice none 0 0, .int .i64 73]) (by simp) (by rfl) (by rfl) (by rfl)
  refine ITri.skip ?_; simp only [SeqQ_normal, BlkQ_normal]
  refine ITri.seq ?_
  refine ITri.block ?_ -- 1
  refine ITri.seq ?_
  have S := some_lift (kn := 4) (wl := 2) (p := (0, 0, true)) (cb := 0) (a1 := 0) (a2 := n) (a3 := ((j + 1 : Nat) : Int)) (L := [none, some (.cells ⟨rows eT l, 0, false⟩), some (.cells ⟨[sT n c], 1, false⟩), some (.cells ⟨[.int .i64 tol], 1, false⟩)]) rfl (some_c n c l tol hn (by omega) (fun i hi => b3 i (by omega)) b4 b5 (j + 1) 0 0 0 [] rfl (by omega) (by omega) (fun x hx => by cases hx) (by omega) (by omega) (.inl ⟨rfl, rfl⟩)) ⟨(sees0 rfl (of_decide_eq_true rfl)), rfl, rfl⟩ (fun _ => rfl) rfl
  have hmI : (1 : Int) + j = ((j + 1 : Nat) : Int) := by omega
  simp only [List.nil_append] at S
  refine ITri.reg pokT ?_; simp -implicitDefEqProofs (disch := first | decide | exact of_eq_true (eq_true rfl) | omega | assumption) only [hmI,  ↓vcD, vcE, evs, evP, evB, intsOf, fillC, Value.cells, pt, List.append_nil, List.nil_append, List.cons_append, List.length_cons, List.length_nil, List.filter_nil, List.map_nil, ↓List.getElem?_cons_zero, ↓List.getElem?_cons_succ, List.getElem?_cons_zero, List.getElem?_cons_succ, List.set_cons_zero, List.set_cons_succ, Option.join_some, Option.join_none, Option.map_some, List.all_cons, List.all_nil, Value.oneCell', reduceIte, reduceCtorEq, Nat.reduceEqDiff, Nat.reduceAdd, Nat.reduceMul, Nat.reduceLT, Nat.reduceBEq, Nat.reduceLeDiff, Nat.reduceSub, List.size_toArray] -- r8 turn.go:139 CALLS .call F74 [(.k (.slice none 0 0)), 0, %24, %25, %26]
  refine ⟨_, _, S, ?_⟩
  have hd : n - j = (n - (j + 1)) + 1 := by omega
  rw [hd, Nat.add_comm 1] at hC
  cases hr : (lsM n (j + 1) 0).find? (fun r => apart l tol r) with
  | none =>
    rw [conF_next hr] at hC
    simp only [smV, smO, AH.news, List.foldl_nil]
    try simp -implicitDefEqProofs (disch := first | decide | exact of_eq_true (eq_true rfl) | omega | assumption) only [ ↓vcD, vcE, evs, evP, evB, intsOf, fillC, Value.cells, pt, List.append_nil, List.nil_append, List.cons_append, List.length_cons, List.length_nil, List.filter_nil, List.map_nil, ↓List.getElem?_cons_zero, ↓List.getElem?_cons_succ, List.getElem?_cons_zero, List.getElem?_cons_succ, List.set_cons_zero, List.set_cons_succ, Option.join_some, Option.join_none, Option.map_some, List.all_cons, List.all_nil, Value.oneCell', reduceIte, reduceCtorEq, Nat.reduceEqDiff, Nat.reduceAdd, Nat.reduceMul, Nat.reduceLT, Nat.reduceBEq, Nat.reduceLeDiff, Nat.reduceSub, List.size_toArray]
    refine ITri.seq ?_
    refine ITri.reg pokT ?_; simp -implicitDefEqProofs (disch := first | decide | exact of_eq_true (eq_true rfl) | omega | assumption) only [ ↓vcD, vcE, evs, evP, evB, intsOf, fillC, Value.cells, pt, List.append_nil, List.nil_append, List.cons_append, List.length_cons, List.length_nil, List.filter_nil, List.map_nil, ↓List.getElem?_cons_zero, ↓List.getElem?_cons_succ, List.getElem?_cons_zero, List.getElem?_cons_succ, List.set_cons_zero, List.set_cons_succ, Option.join_some, Option.join_none, Option.map_some, List.all_cons, List.all_nil, Value.oneCell', reduceIte, reduceCtorEq, Nat.reduceEqDiff, Nat.reduceAdd, Nat.reduceMul, Nat.reduceLT, Nat.reduceBEq, Nat.reduceLeDiff, Nat.reduceSub, List.size_toArray]
    refine gen_ni (by kernel_rfl) rfl ?_
    try simp -implicitDefEqProofs (disch := first | decide | exact of_eq_true (eq_true rfl) | omega | assumption) only [ ↓vcD, vcE, evs, evP, evB, intsOf, fillC, Value.cells, pt, List.append_nil, List.nil_append, List.cons_append, List.length_cons, List.length_nil, List.filter_nil, List.map_nil, ↓List.getElem?_cons_zero, ↓List.getElem?_cons_succ, List.getElem?_cons_zero, List.getElem?_cons_succ, List.set_cons_zero, List.set_cons_succ, Option.join_some, Option.join_none, Option.map_some, List.all_cons, List.all_nil, Value.oneCell', reduceIte, reduceCtorEq, Nat.reduceEqDiff, Nat.reduceAdd, Nat.reduceMul, Nat.reduceLT, Nat.reduceBEq, Nat.reduceLeDiff, Nat.reduceSub, List.size_toArray]
    refine ITri.cond (v := false) rfl (fun h => by cases h) (fun _ => ?_); refine ITri.skip ?_; simp only [SeqQ_normal, BlkQ_normal]
    refine ITri.reg pokT ?_; simp -implicitDefEqProofs (disch := first | decide | exact of_eq_true (eq_true rfl) | omega | assumption) only [ ↓vcD, vcE, evs, evP, evB, intsOf, fillC, Value.cells, pt, List.append_nil, List.nil_append, List.cons_append, List.length_cons, List.length_nil, List.filter_nil, List.map_nil, ↓List.getElem?_cons_zero, ↓List.getElem?_cons_succ, List.getElem?_cons_zero, List.getElem?_cons_succ, List.set_cons_zero, List.set_cons_succ, Option.join_some, Option.join_none, Option.map_some, List.all_cons, List.all_nil, Value.oneCell', reduceIte, reduceCtorEq, Nat.reduceEqDiff, Nat.reduceAdd, Nat.reduceMul, Nat.reduceLT, Nat.reduceBEq, Nat.reduceLeDiff, Nat.reduceSub, List.size_toArray] -- r7 turn.go:138
    refine LoopQ.next (j + 1) ⟨by omega, by rw [Nat.add_comm 1]; exact hC⟩ (by omega) (Wk.sub ⟨rfl, rfl, ?_, trivial⟩) -- head [2, 7, 8]
    simp [lk]
    omega
  | some r =>
    rw [conF_hit hr] at hC
    subst hC
    have hrl := (lsM_mem (j + 1) 0 r (List.mem_of_find?_eq_some hr)).1
    simp only [smV, smO, if_neg (Nat.succ_ne_zero j)]
    rw [Hq_news]
    try simp -implicitDefEqProofs (disch := first | decide | exact of_eq_true (eq_true rfl) | omega | assumption) only [ ↓vcD, vcE, evs, evP, evB, intsOf, fillC, Value.cells, pt, List.append_nil, List.nil_append, List.cons_append, List.length_cons, List.length_nil, List.filter_nil, List.map_nil, ↓List.getElem?_cons_zero, ↓List.getElem?_cons_succ, List.getElem?_cons_zero, List.getElem?_cons_succ, List.set_cons_zero, List.set_cons_succ, Option.join_some, Option.join_none, Option.map_some, List.all_cons, List.all_nil, Value.oneCell', reduceIte, reduceCtorEq, Nat.reduceEqDiff, Nat.reduceAdd, Nat.reduceMul, Nat.reduceLT, Nat.reduceBEq, Nat.reduceLeDiff, Nat.reduceSub, List.size_toArray]
    refine ITri.seq ?_
    refine ITri.reg pokT ?_; simp -implicitDefEqProofs (disch := first | decide | exact of_eq_true (eq_true rfl) | omega | assumption) only [ ↓vcD, vcE, evs, evP, evB, intsOf, fillC, Value.cells, pt, List.append_nil, List.nil_append, List.cons_append, List.length_cons, List.length_nil, List.filter_nil, List.map_nil, ↓List.getElem?_cons_zero, ↓List.getElem?_cons_succ, List.getElem?_cons_zero, List.getElem?_cons_succ, List.set_cons_zero, List.set_cons_succ, Option.join_some, Option.join_none, Option.map_some, List.all_cons, List.all_nil, Value.oneCell', reduceIte, reduceCtorEq, Nat.reduceEqDiff, Nat.reduceAdd, Nat.reduceMul, Nat.reduceLT, Nat.reduceBEq, Nat.reduceLeDiff, Nat.reduceSub, List.size_toArray]
    refine gen_nn u_sl rfl (by omega) ?_
    try simp -implicitDefEqProofs (disch := first | decide | exact of_eq_true (eq_true rfl) | omega | assumption) only [ ↓vcD, vcE, evs, evP, evB, intsOf, fillC, Value.cells, pt, List.append_nil, List.nil_append, List.cons_append, List.length_cons, List.length_nil, List.filter_nil, List.map_nil, ↓List.getElem?_cons_zero, ↓List.getElem?_cons_succ, List.getElem?_cons_zero, List.getElem?_cons_succ, List.set_cons_zero, List.set_cons_succ, Option.join_some, Option.join_none, Option.map_some, List.all_cons, List.all_nil, Value.oneCell', reduceIte, reduceCtorEq, Nat.reduceEqDiff, Nat.reduceAdd, Nat.reduceMul, Nat.reduceLT, Nat.reduceBEq, Nat.reduceLeDiff, Nat.reduceSub, List.size_toArray]
    refine ITri.cond (v := true) rfl (fun _ => ?_) (fun h => by cases h)
    refine ITri.seq ?_
    refine ITri.reg pokT ?_; simp -implicitDefEqProofs (disch := first | decide | exact of_eq_true (eq_true rfl) | omega | assumption) only [ ↓vcD, vcE, evs, evP, evB, intsOf, fillC, Value.cells, pt, List.append_nil, List.nil_append, List.cons_append, List.length_cons, List.length_nil, List.filter_nil, List.map_nil, ↓List.getElem?_cons_zero, ↓List.getElem?_cons_succ, List.getElem?_cons_zero, List.getElem?_cons_succ, List.set_cons_zero, List.set_cons_succ, Option.join_some, Option.join_none, Option.map_some, List.all_cons, List.all_nil, Value.oneCell', reduceIte, reduceCtorEq, Nat.reduceEqDiff, Nat.reduceAdd, Nat.reduceMul, Nat.reduceLT, Nat.reduceBEq, Nat.reduceLeDiff, Nat.reduceSub, List.size_toArray]
    simp only [slO, rowO, Option.isSome_some, if_true, hrl, Nat.zero_add]
    refine ITri.ret ?_; exact end_own2 (k := 4) (by omega) (rows_no _) rfl rfl
end Go.Proofs.Ytlkfcbdbieenhaa
