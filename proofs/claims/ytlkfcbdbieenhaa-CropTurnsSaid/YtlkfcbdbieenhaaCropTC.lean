/-
  Chapter 7, turns, by names: the reference's Conflict.
-/
import Derived.Test.YtlkfcbdbieenhaaCropTA
import Derived.Test.YtlkfcbdbieenhaaCropTB
set_option linter.unusedSimpArgs false
set_option linter.unusedVariables false
namespace Go.Vm
open Go Go.RowKit
/-- How a function ends that returns a row of its own. -/
theorem end_ownG {P : Program} {rs : List ResultVar} {l : Fr} {L : List (Option AObj)} {k n b sz c : Nat} {op : Bool} {cs : List Value} (hk : b ≤ k) (hno : noAddrL cs = true) (hL : L[k]? = some (some (.cells ⟨cs, sz, op⟩))) (hr : resF P l (Hp b L) rs = some [.slice (some ⟨k, 0, none⟩) n c]) :
    EndR P rs b [.cells ⟨cs, sz, op⟩] (.slice (some ⟨b, 0, none⟩) n c) .ret l [] (Hp b L) := by
  refine ⟨by simp, rfl, [.slice (some ⟨k, 0, none⟩) n c], [k], [], hr, rfl, by simp, by simpa using hk, (fun p hp => by cases hp), ?_, ?_, fun i o2 h => .inr ?_⟩
  · show _ = mvS .same ⟨(fun k' => if k' < b then k' else [k].getD (k' - b) 0) b, 0, none⟩ n c
    simp [mvS]
    rfl
  · exact ⟨by simp, trivial⟩
  · match i, h with
    | 0, h =>
      cases h
      refine ⟨(by intro e; cases e), _, (by show (Hp b L).get k = _; rw [Hp_get, hL]; rfl), ?_⟩
      exact ⟨(mvL_noAddr _ _ _ hno).symm, okML_noAddr _ _ _ hno, fun e => e, fun e => ⟨e, rfl⟩⟩
end Go.Vm
namespace Go.Proofs.Ytlkfcbdbieenhaa
open Go.RowKit Go.Vm
set_option maxRecDepth 100000
def slC (kn : Nat) : Option (List Int) → Value
  | none => .slice none 0 0
  | some js => slL js.length kn
def rowC : Option (List Int) → List AObj
  | none => []
  | some js => [inL js.length js]
theorem lsO_in {b m : Nat} {ys : List (List Int)} {L : List (Option AObj)} {i : Nat} {y : List Int} (hy : ys[i]? = some y) : (L ++ (lsO b m ys).map some)[L.length + i]? = some (some (inL m y)) := by
  have hi : i < ys.length := (List.getElem?_eq_some_iff.1 hy).1
  rw [apd_get]
  unfold lsO
  rw [List.map_append, List.getElem?_append_left (by simpa using hi), List.getElem?_map, List.getElem?_map, hy]
  rfl
theorem lsO_out {b m : Nat} {ys : List (List Int)} {L : List (Option AObj)} : (L ++ (lsO b m ys).map some)[L.length + ys.length]? = some (some (.cells ⟨(List.range' b ys.length).map (slL m), 1, true⟩)) := by
  rw [apd_get]
  unfold lsO
  rw [List.map_append, List.getElem?_append_right (by simp)]
  simp
/- boule/bouleref07.Conflict · slots 45 · names 0:l 1:tolerance 2:limit 3:l 4:tolerance 5:limit 7:many 8:all 9:k 10:_ 11:ok · results [6] -/
def ir45_r0 : IC := .reg [⟨some 6, none, false, .mv (.k (.slice none 0 0))⟩] (some [0, 1, 2])
def ir45_r1 : IC := .reg [⟨some 7, none, false, .mv (.k (.int .i64 1))⟩] (some [0, 1, 2, 7])
def ir45_r2 : IC := .reg [⟨some 12, none, false, .mv (.t 7)⟩,
  ⟨some 13, none, false, .mv (.t 0)⟩,
  ⟨some 14, none, false, .len (.t 13)⟩,
  ⟨some 15, none, false, .cmp .leq (.t 12) (.t 14)⟩] (some [0, 1, 2, 7, 15])
def ir45_1 : IC := .cond (.t 15) .skip (.exit 0)
def ir45_2 : IC := .seq ir45_r2 ir45_1
def ir45_r4 : IC := .reg [⟨some 18, none, false, .mv (.t 0)⟩,
  ⟨some 19, none, false, .len (.t 18)⟩,
  ⟨some 20, none, false, .mv (.t 7)⟩,
  ⟨some 21, none, false, .call (.f 76) [(.k (.int .i64 0)), (.t 19), (.t 20)]⟩,
  ⟨some 8, none, false, .mv (.t 21)⟩] (some [0, 1, 2, 7, 8])
def ir45_r5 : IC := .reg [⟨some 9, none, false, .mv (.k (.int .i64 0))⟩] (some [0, 1, 2, 7, 8, 9])
def ir45_r6 : IC := .reg [⟨some 22, none, false, .mv (.t 9)⟩,
  ⟨some 23, none, false, .mv (.t 8)⟩,
  ⟨some 24, none, false, .len (.t 23)⟩,
  ⟨some 25, none, false, .cmp .lss (.t 22) (.t 24)⟩] (some [0, 1, 2, 7, 8, 9, 25])
def ir45_3 : IC := .cond (.t 25) .skip (.exit 2)
def ir45_4 : IC := .seq ir45_r6 ir45_3
def ir45_r8 : IC := .reg [⟨some 29, none, false, .mv (.t 0)⟩,
  ⟨some 30, none, false, .mv (.t 8)⟩,
  ⟨some 31, none, false, .mv (.t 9)⟩,
  ⟨some 32, none, false, .iad 1 (.t 30) (.t 31)⟩,
  ⟨some 33, none, false, .ldc (.t 32)⟩,
  ⟨some 34, none, false, .mv (.t 1)⟩,
  ⟨some 35, none, false, .mv (.t 2)⟩,
  ⟨some 36, none, false, .call (.f 43) [(.t 29), (.t 33), (.t 34), (.t 35)]⟩,
  ⟨some 28, none, false, .mv (.t 36)⟩,
  ⟨some 37, none, false, .ext (.t 28) 0⟩,
  ⟨some 38, none, false, .ext (.t 28) 1⟩,
  ⟨some 10, none, false, .alloc [(.int .i64 0), (.int .i64 0)]⟩,
  ⟨none, none, false, .st 2 (.t 10) (.t 37)⟩,
  ⟨some 11, none, false, .mv (.t 38)⟩] (some [0, 1, 2, 7, 8, 9, 11])
def ir45_r9 : IC := .reg [⟨some 39, none, false, .mv (.t 11)⟩,
  ⟨some 40, none, false, .not (.t 39)⟩] (some [0, 1, 2, 7, 8, 9, 40])
def ir45_r10 : IC := .reg [⟨some 41, none, false, .mv (.t 8)⟩,
  ⟨some 42, none, false, .mv (.t 9)⟩,
  ⟨some 43, none, false, .iad 1 (.t 41) (.t 42)⟩,
  ⟨some 44, none, false, .ldc (.t 43)⟩,
  ⟨some 6, none, false, .mv (.t 44)⟩] (some [6])
def ir45_5 : IC := .seq ir45_r10 .ret
def ir45_6 : IC := .cond (.t 40) ir45_5 .skip
def ir45_7 : IC := .seq ir45_r9 ir45_6
def ir45_8 : IC := .seq ir45_r8 ir45_7
def ir45_9 : IC := .block 3 ir45_8
def ir45_r7 : IC := .reg [⟨some 26, none, false, .mv (.t 9)⟩,
  ⟨some 27, none, false, .ar .add (.t 26) (.k (.int .i64 1))⟩,
  ⟨some 9, none, false, .mv (.t 27)⟩] (some [0, 1, 2, 7, 8, 9])
def ir45_10 : IC := .seq ir45_9 ir45_r7
def ir45_11 : IC := .seq ir45_4 ir45_10
def ir45_12 : IC := .loop ir45_11
def ir45_13 : IC := .block 2 ir45_12
def ir45_14 : IC := .seq ir45_r5 ir45_13
def ir45_15 : IC := .seq ir45_r4 ir45_14
def ir45_16 : IC := .block 1 ir45_15
def ir45_r3 : IC := .reg [⟨some 16, none, false, .mv (.t 7)⟩,
  ⟨some 17, none, false, .ar .add (.t 16) (.k (.int .i64 1))⟩,
  ⟨some 7, none, false, .mv (.t 17)⟩] (some [0, 1, 2, 7])
def ir45_17 : IC := .seq ir45_16 ir45_r3
def ir45_18 : IC := .seq ir45_2 ir45_17
def ir45_19 : IC := .loop ir45_18
def ir45_20 : IC := .block 0 ir45_19
def ir45_21 : IC := .seq ir45_r1 ir45_20
def ir45_r11 : IC := .reg [⟨some 6, none, false, .mv (.k (.slice none 0 0))⟩] (some [6])
def ir45_22 : IC := .seq ir45_r11 .ret
def ir45_23 : IC := .seq ir45_21 ir45_22
def ir45_24 : IC := .seq ir45_r0 ir45_23
def ir45 : IC := ir45_24
theorem fn45 : FnIs Try.prog 45 ir45 45 [.tmp 6] := ⟨Try.f45, Try.f45.body.getD .skip, Try.func45, by kernel_rfl, by kernel_rfl, by kernel_rfl, by kernel_rfl⟩
theorem refConf_c (n c : Nat) (l : List Tl) (tol : Int) (hn : l.length = n) (hn5 : n ≤ 5) (ht : ∀ i, i < n → smB (nth l i) = true) (h1 : tol ≤ 10) (h0 : 0 ≤ tol) :
    Fc Try.prog 45 [sT n c, .int .i64 tol, .int .i64 20] (mT (rows eT l)) (slC 2 (conF (apart l tol) n n 1)) ((mT (rows eT l)).news (rowC (conF (apart l tol) n n 1))) := by
  refine Fc.introR fn45 (by simp) rfl rfl ?_; simp only [argF]
  generalize hC0 : conF (apart l tol) n n 1 = o
  refine ITri.seq ?_
  refine ITri.reg pokT ?_; simp -implicitDefEqProofs (disch := first | decide | exact of_eq_true (eq_true rfl) | omega | assumption) only [ ↓vcD, vcE, evs, evP, evB, intsOf, fillC, Value.cells, pt, List.append_nil, List.nil_append, List.cons_append, List.length_cons, List.length_nil, List.filter_nil, List.map_nil, ↓List.getElem?_cons_zero, ↓List.getElem?_cons_succ, List.getElem?_cons_zero, List.getElem?_cons_succ, List.set_cons_zero, List.set_cons_succ, Option.join_some, Option.join_none, Option.map_some, List.all_cons, List.all_nil, Value.oneCell', reduceIte, reduceCtorEq, Nat.reduceEqDiff, Nat.reduceAdd, Nat.reduceMul, Nat.reduceLT, Nat.reduceBEq, Nat.reduceLeDiff, Nat.reduceSub, List.size_toArray] -- r0 ref.go:222
  refine ITri.seq ?_
  refine ITri.seq ?_
  refine ITri.reg pokT ?_; simp -implicitDefEqProofs (disch := first | decide | exact of_eq_true (eq_true rfl) | omega | assumption) only [ ↓vcD, vcE, evs, evP, evB, intsOf, fillC, Value.cells, pt, List.append_nil, List.nil_append, List.cons_append, List.length_cons, List.length_nil, List.filter_nil, List.map_nil, ↓List.getElem?_cons_zero, ↓List.getElem?_cons_succ, List.getElem?_cons_zero, List.getElem?_cons_succ, List.set_cons_zero, List.set_cons_succ, Option.join_some, Option.join_none, Option.map_some, List.all_cons, List.all_nil, Value.oneCell', reduceIte, reduceCtorEq, Nat.reduceEqDiff, Nat.reduceAdd, Nat.reduceMul, Nat.reduceLT, Nat.reduceBEq, Nat.reduceLeDiff, Nat.reduceSub, List.size_toArray] -- r1 ref.go:223
  refine ITri.block ?_ -- 0
  refine ITri.loop (fun q : Nat × List (Option AObj) => [(0, sT n c), (1, .int .i64 tol), (2, .int .i64 20), (7, .int .i64 (1 + q.1))]) (fun _ => []) (fun q => Hp 2 (none :: some (AObj.cells ⟨rows eT l, 0, false⟩) :: q.2)) (fun q => q.1 ≤ n ∧ conF (apart l tol) n (n - q.1) (1 + q.1) = o) (fun q => n - q.1) (0, []) ⟨Nat.zero_le _, hC0⟩ (Wk.sub ⟨rfl, rfl, rfl, rfl, trivial⟩) fun q hq => ?_
  obtain ⟨j, T⟩ := q
  obtain ⟨hj, hC⟩ := hq
  simp only at hj hC ⊢
  have hL1 : (none :: some (AObj.cells ⟨rows eT l, 0, false⟩) :: T)[1]? = some (some (AObj.cells ⟨rows eT l, 0, false⟩)) := rfl
  have hLn : 1 < (none :: some (AObj.cells ⟨rows eT l, 0, false⟩) :: T).length := by simp
  generalize hLL : none :: some (AObj.cells ⟨rows eT l, 0, false⟩) :: T = L at *
  have hL2 : ∃ T, L = none :: some (AObj.cells ⟨rows eT l, 0, false⟩) :: T := ⟨T, hLL.symm⟩
  clear hLL
  refine ITri.seq ?_
  refine ITri.seq ?_
  refine ITri.reg pokT ?_; simp -implicitDefEqProofs (disch := first | decide | exact of_eq_true (eq_true rfl) | omega | assumption) only [ ↓vcD, vcE, evs, evP, evB, intsOf, fillC, Value.cells, pt, List.append_nil, List.nil_append, List.cons_append, List.length_cons, List.length_nil, List.filter_nil, List.map_nil, ↓List.getElem?_cons_zero, ↓List.getElem?_cons_succ, List.getElem?_cons_zero, List.getElem?_cons_succ, List.set_cons_zero, List.set_cons_succ, Option.join_some, Option.join_none, Option.map_some, List.all_cons, List.all_nil, Value.oneCell', reduceIte, reduceCtorEq, Nat.reduceEqDiff, Nat.reduceAdd, Nat.reduceMul, Nat.reduceLT, Nat.reduceBEq, Nat.reduceLeDiff, Nat.reduceSub, List.size_toArray] -- r2 ref.go:223
  refine ITri.condD (by rfl) (fun h2 => ?_) (fun h2 => ?_) -- %15
  rotate_left
  · refine ITri.exit ?_; try simp -implicitDefEqProofs (disch := first | decide | exact of_eq_true (eq_true rfl) | omega | assumption) only [ ↓vcD, vcE, evs, evP, evB, intsOf, fillC, Value.cells, pt, List.append_nil, List.nil_append, List.cons_append, List.length_cons, List.length_nil, List.filter_nil, List.map_nil, ↓List.getElem?_cons_zero, ↓List.getElem?_cons_succ, List.getElem?_cons_zero, List.getElem?_cons_succ, List.set_cons_zero, List.set_cons_succ, Option.join_some, Option.join_none, Option.map_some, List.all_cons, List.all_nil, Value.oneCell', reduceIte, reduceCtorEq, Nat.reduceEqDiff, Nat.reduceAdd, Nat.reduceMul, Nat.reduceLT, Nat.reduceBEq, Nat.reduceLeDiff, Nat.reduceSub, List.size_toArray] -- exit 0
    obtain rfl : n = j := by omega
    rw [Nat.sub_self] at hC
    subst hC
    refine ITri.seq ?_
    refine ITri.reg pokT ?_; simp -implicitDefEqProofs (disch := first | decide | exact of_eq_true (eq_true rfl) | omega | assumption) only [ ↓vcD, vcE, evs, evP, evB, intsOf, fillC, Value.cells, pt, List.append_nil, List.nil_append, List.cons_append, List.length_cons, List.length_nil, List.filter_nil, List.map_nil, ↓List.getElem?_cons_zero, ↓List.getElem?_cons_succ, List.getElem?_cons_zero, List.getElem?_cons_succ, List.set_cons_zero, List.set_cons_succ, Option.join_some, Option.join_none, Option.map_some, List.all_cons, List.all_nil, Value.oneCell', reduceIte, reduceCtorEq, Nat.reduceEqDiff, Nat.reduceAdd, Nat.reduceMul, Nat.reduceLT, Nat.reduceBEq, Nat.reduceLeDiff, Nat.reduceSub, List.size_toArray] -- r11 ref.go:231
    refine ITri.ret ?_; exact EndR.plain (vs := [.slice none 0 0]) (by simp) (by rfl) (by rfl) (by rfl)
  refine ITri.skip ?_; simp only [SeqQ_normal, BlkQ_normal]
  refine ITri.seq ?_
  refine ITri.block ?_ -- 1
  refine ITri.seq ?_
  have hmI : (1 : Int) + j = ((j + 1 : Nat) : Int) := by omega
  refine ITri.reg pokT ?_; simp -implicitDefEqProofs (disch := first | decide | exact of_eq_true (eq_true rfl) | omega | assumption) only [hmI,  ↓vcD, vcE, evs, evP, evB, intsOf, fillC, Value.cells, pt, List.append_nil, List.nil_append, List.cons_append, List.length_cons, List.length_nil, List.filter_nil, List.map_nil, ↓List.getElem?_cons_zero, ↓List.getElem?_cons_succ, List.getElem?_cons_zero, List.getElem?_cons_succ, List.set_cons_zero, List.set_cons_succ, Option.join_some, Option.join_none, Option.map_some, List.all_cons, List.all_nil, Value.oneCell', reduceIte, reduceCtorEq, Nat.reduceEqDiff, Nat.reduceAdd, Nat.reduceMul, Nat.reduceLT, Nat.reduceBEq, Nat.reduceLeDiff, Nat.reduceSub, List.size_toArray] -- r4 ref.go:224 CALLS .call F76 [0, %19, %20]
  refine ⟨_, _, lists_f n (j + 1) hn5 (by omega) (by omega) (sees0 rfl (by omega)), ?_⟩
  rw [Hq_news]
  have hd : n - j = (n - (j + 1)) + 1 := by omega
  rw [hd, Nat.add_comm 1] at hC
  have hmem := fun js h => lsM_mem (n := n) (j + 1) 0 js h
  have hyb : (lsM n (j + 1) 0).length ≤ 3125 := Nat.le_trans (lsM_len (B := 5) (j + 1) 0 (by omega)) (Nat.pow_le_pow_right (n := 5) (by omega) (show j + 1 ≤ 5 by omega))
  have hcon : ∀ r, (lsM n (j + 1) 0).find? (apart l tol) = some r → o = some r := fun r h => by rw [← hC, conF_hit h]
  have hnone : (lsM n (j + 1) 0).find? (apart l tol) = none → conF (apart l tol) n (n - (j + 1)) (j + 1 + 1) = o := fun h => by rw [← hC, conF_next h]
  clear hC hd
  have hnx : (Hp 2 L).next = L.length := rfl
  rw [hnx]
  generalize lsM n (j + 1) 0 = ys at *
  try simp -implicitDefEqProofs (disch := first | decide | exact of_eq_true (eq_true rfl) | omega | assumption) only [ ↓vcD, vcE, evs, evP, evB, intsOf, fillC, Value.cells, pt, List.append_nil, List.nil_append, List.cons_append, List.length_cons, List.length_nil, List.filter_nil, List.map_nil, ↓List.getElem?_cons_zero, ↓List.getElem?_cons_succ, List.getElem?_cons_zero, List.getElem?_cons_succ, List.set_cons_zero, List.set_cons_succ, Option.join_some, Option.join_none, Option.map_some, List.all_cons, List.all_nil, Value.oneCell', reduceIte, reduceCtorEq, Nat.reduceEqDiff, Nat.reduceAdd, Nat.reduceMul, Nat.reduceLT, Nat.reduceBEq, Nat.reduceLeDiff, Nat.reduceSub, List.size_toArray]
  refine ITri.seq ?_
  refine ITri.reg pokT ?_; simp -implicitDefEqProofs (disch := first | decide | exact of_eq_true (eq_true rfl) | omega | assumption) only [ ↓vcD, vcE, evs, evP, evB, intsOf, fillC, Value.cells, pt, List.append_nil, List.nil_append, List.cons_append, List.length_cons, List.length_nil, List.filter_nil, List.map_nil, ↓List.getElem?_cons_zero, ↓List.getElem?_cons_succ, List.getElem?_cons_zero, List.getElem?_cons_succ, List.set_cons_zero, List.set_cons_succ, Option.join_some, Option.join_none, Option.map_some, List.all_cons, List.all_nil, Value.oneCell', reduceIte, reduceCtorEq, Nat.reduceEqDiff, Nat.reduceAdd, Nat.reduceMul, Nat.reduceLT, Nat.reduceBEq, Nat.reduceLeDiff, Nat.reduceSub, List.size_toArray] -- r5 ref.go:225
  refine ITri.block ?_ -- 2
  have hout := lsO_out (b := L.length) (m := j + 1) (ys := ys) (L := L)
  have hin := fun i y => lsO_in (b := L.length) (m := j + 1) (ys := ys) (L := L) (i := i) (y := y)
  have hlow : ∀ k x, L[k]? = some x → (L ++ (lsO L.length (j + 1) ys).map some)[k]? = some x := fun k x h => apd_low x h
  have hL2' : ∃ T, L ++ (lsO L.length (j + 1) ys).map some = none :: some (AObj.cells ⟨rows eT l, 0, false⟩) :: T := by
    obtain ⟨T, rfl⟩ := hL2
    exact ⟨_, rfl⟩
  have hM1 := hlow _ _ hL1
  clear hlow hL1 hL2
  generalize hMM : L ++ (lsO L.length (j + 1) ys).map some = M at *
  clear hMM
  generalize hB : L.length = B at *
  have hMl : ∀ {k : Nat} {x : Option AObj}, M[k]? = some x → k < M.length := fun h => (List.getElem?_eq_some_iff.1 h).1
  have hBM : B + ys.length < M.length := hMl hout
  refine ITri.loop (fun q : Nat × List (Option AObj) => [(0, sT n c), (1, .int .i64 tol), (2, .int .i64 20), (7, .int .i64 ((j + 1 : Nat) : Int)), (8, .slice (some ⟨B + ys.length, 0, none⟩) ys.length openB), (9, .int .i64 q.1)]) (fun _ => []) (fun q => Hp 2 (M ++ q.2)) (fun q => q.1 ≤ ys.length ∧ (ys.take q.1).find? (apart l tol) = none) (fun q => ys.length - q.1) (0, []) ⟨Nat.zero_le _, rfl⟩ (by rw [List.append_nil]; exact Wk.sub ⟨rfl, rfl, rfl, rfl, rfl, rfl, trivial⟩) fun q hq => ?_
  obtain ⟨k, T⟩ := q
  obtain ⟨hk, hF⟩ := hq
  simp only at hk hF ⊢
  have hN1 := apd_low (T := T) _ hM1
  have hNo := apd_low (T := T) _ hout
  have hNi : ∀ i y, ys[i]? = some y → (M ++ T)[B + i]? = some (some (inL (j + 1) y)) := fun i y h => apd_low (T := T) _ (hin i y h)
  have hN0 : 0 < (M ++ T).length := by simp; omega
  have hN2 : ∃ T', M ++ T = none :: some (AObj.cells ⟨rows eT l, 0, false⟩) :: T' := by
    obtain ⟨T', e⟩ := hL2'
    exact ⟨T' ++ T, by rw [e]; rfl⟩
  generalize hNN : M ++ T = N at *
  have hNl : 2 ≤ N.length := by
    obtain ⟨T', e⟩ := hN2
    rw [e]
    simp
  refine ITri.seq ?_
  refine ITri.seq ?_
  refine ITri.reg pokT ?_; simp -implicitDefEqProofs (disch := first | decide | exact of_eq_true (eq_true rfl) | omega | assumption) only [ ↓vcD, vcE, evs, evP, evB, intsOf, fillC, Value.cells, pt, List.append_nil, List.nil_append, List.cons_append, List.length_cons, List.length_nil, List.filter_nil, List.map_nil, ↓List.getElem?_cons_zero, ↓List.getElem?_cons_succ, List.getElem?_cons_zero, List.getElem?_cons_succ, List.set_cons_zero, List.set_cons_succ, Option.join_some, Option.join_none, Option.map_some, List.all_cons, List.all_nil, Value.oneCell', reduceIte, reduceCtorEq, Nat.reduceEqDiff, Nat.reduceAdd, Nat.reduceMul, Nat.reduceLT, Nat.reduceBEq, Nat.reduceLeDiff, Nat.reduceSub, List.size_toArray] -- r6 ref.go:225
  refine ITri.condD (by rfl) (fun h3 => ?_) (fun h3 => ?_) -- %25
  rotate_left
  · refine ITri.exit ?_; try simp -implicitDefEqProofs (disch := first | decide | exact of_eq_true (eq_true rfl) | omega | assumption) only [ ↓vcD, vcE, evs, evP, evB, intsOf, fillC, Value.cells, pt, List.append_nil, List.nil_append, List.cons_append, List.length_cons, List.length_nil, List.filter_nil, List.map_nil, ↓List.getElem?_cons_zero, ↓List.getElem?_cons_succ, List.getElem?_cons_zero, List.getElem?_cons_succ, List.set_cons_zero, List.set_cons_succ, Option.join_some, Option.join_none, Option.map_some, List.all_cons, List.all_nil, Value.oneCell', reduceIte, reduceCtorEq, Nat.reduceEqDiff, Nat.reduceAdd, Nat.reduceMul, Nat.reduceLT, Nat.reduceBEq, Nat.reduceLeDiff, Nat.reduceSub, List.size_toArray] -- exit 2
    rw [List.take_of_length_le (by omega)] at hF
    refine ITri.reg pokT ?_; simp -implicitDefEqProofs (disch := first | decide | exact of_eq_true (eq_true rfl) | omega | assumption) only [ ↓vcD, vcE, evs, evP, evB, intsOf, fillC, Value.cells, pt, List.append_nil, List.nil_append, List.cons_append, List.length_cons, List.length_nil, List.filter_nil, List.map_nil, ↓List.getElem?_cons_zero, ↓List.getElem?_cons_succ, List.getElem?_cons_zero, List.getElem?_cons_succ, List.set_cons_zero, List.set_cons_succ, Option.join_some, Option.join_none, Option.map_some, List.all_cons, List.all_nil, Value.oneCell', reduceIte, reduceCtorEq, Nat.reduceEqDiff, Nat.reduceAdd, Nat.reduceMul, Nat.reduceLT, Nat.reduceBEq, Nat.reduceLeDiff, Nat.reduceSub, List.size_toArray] -- r3 ref.go:223
    obtain ⟨T', rfl⟩ := hN2
    refine LoopQ.next (j + 1, T') ⟨by omega, by simp only; rw [Nat.add_comm 1]; exact hnone hF⟩ (by simp only; omega) (Wk.sub ⟨rfl, rfl, rfl, ?_, trivial⟩)
    simp [lk]
    omega
  refine ITri.skip ?_; simp only [SeqQ_normal, BlkQ_normal]
  have hky : k < ys.length := by omega
  obtain ⟨y, hy⟩ : ∃ y, ys[k]? = some y := ⟨_, List.getElem?_eq_getElem hky⟩
  obtain ⟨hyl, hyr⟩ := hmem y (List.mem_of_getElem? hy)
  have hNk := hNi k y hy
  have hcell : ((List.range' B ys.length).map (slL (j + 1)))[k]? = some (.slice (some ⟨B + k, 0, none⟩) (j + 1) (capL (j + 1))) := by
    rw [List.getElem?_map, List.getElem?_range' hky, Nat.one_mul]
    rfl
  have hjN : (N[B + k]?).join = some (inL (j + 1) y) := by rw [hNk]; rfl
  have hj1 : (N[1]?).join = some (.cells ⟨rows eT l, 0, false⟩) := by rw [hN1]; rfl
  have hjo : (N[B + ys.length]?).join = some (.cells ⟨(List.range' B ys.length).map (slL (j + 1)), 1, true⟩) := by rw [hNo]; rfl
  refine ITri.seq ?_
  refine ITri.block ?_ -- 3
  refine ITri.seq ?_
  refine ITri.reg pokT ?_; simp -implicitDefEqProofs (disch := first | decide | exact of_eq_true (eq_true rfl) | omega | assumption) only [hNo, hcell,  ↓vcD, vcE, evs, evP, evB, intsOf, fillC, Value.cells, pt, List.append_nil, List.nil_append, List.cons_append, List.length_cons, List.length_nil, List.filter_nil, List.map_nil, ↓List.getElem?_cons_zero, ↓List.getElem?_cons_succ, List.getElem?_cons_zero, List.getElem?_cons_succ, List.set_cons_zero, List.set_cons_succ, Option.join_some, Option.join_none, Option.map_some, List.all_cons, List.all_nil, Value.oneCell', reduceIte, reduceCtorEq, Nat.reduceEqDiff, Nat.reduceAdd, Nat.reduceMul, Nat.reduceLT, Nat.reduceBEq, Nat.reduceLeDiff, Nat.reduceSub, List.size_toArray] -- r8 ref.go:226 CALLS .call F43 [%29, %33, %34, %35]
  refine ⟨_, _, refTurn_f n l tol (j + 1) y hn hyl (by omega) (by omega) (fun x hx => by have := hyr x hx; omega) ht h1 h0 (sees0 rfl hN0) (Rd.hq rfl hj1) (Rd.hq rfl hjN), ?_⟩
  simp -implicitDefEqProofs (disch := first | decide | exact of_eq_true (eq_true rfl) | omega | assumption) only [apd_get0, apd_set0,  ↓vcD, vcE, evs, evP, evB, intsOf, fillC, Value.cells, pt, List.append_nil, List.nil_append, List.cons_append, List.length_cons, List.length_nil, List.filter_nil, List.map_nil, ↓List.getElem?_cons_zero, ↓List.getElem?_cons_succ, List.getElem?_cons_zero, List.getElem?_cons_succ, List.set_cons_zero, List.set_cons_succ, Option.join_some, Option.join_none, Option.map_some, List.all_cons, List.all_nil, Value.oneCell', reduceIte, reduceCtorEq, Nat.reduceEqDiff, Nat.reduceAdd, Nat.reduceMul, Nat.reduceLT, Nat.reduceBEq, Nat.reduceLeDiff, Nat.reduceSub, List.size_toArray]
  refine ITri.seq ?_
  have hap : apart l tol y = !(firstF (sqL l tol y)).2.2 := rfl
  have htk : ys.take (k + 1) = ys.take k ++ [y] := by rw [List.take_add_one, hy]; rfl
  cases hb : (firstF (sqL l tol y)).2.2 with
  | false =>
    refine ITri.reg pokT ?_; simp -implicitDefEqProofs (disch := first | decide | exact of_eq_true (eq_true rfl) | omega | assumption) only [hb,  ↓vcD, vcE, evs, evP, evB, intsOf, fillC, Value.cells, pt, List.append_nil, List.nil_append, List.cons_append, List.length_cons, List.length_nil, List.filter_nil, List.map_nil, ↓List.getElem?_cons_zero, ↓List.getElem?_cons_succ, List.getElem?_cons_zero, List.getElem?_cons_succ, List.set_cons_zero, List.set_cons_succ, Option.join_some, Option.join_none, Option.map_some, List.all_cons, List.all_nil, Value.oneCell', reduceIte, reduceCtorEq, Nat.reduceEqDiff, Nat.reduceAdd, Nat.reduceMul, Nat.reduceLT, Nat.reduceBEq, Nat.reduceLeDiff, Nat.reduceSub, List.size_toArray] -- r9 ref.go:226
    refine ITri.cond (v := true) rfl (fun _ => ?_) (fun h => by cases h)
    have hfi : ys.find? (apart l tol) = some y := by
      rw [← List.take_append_drop (k + 1) ys, htk, List.find?_append, List.find?_append, hF]
      simp [hap, hb]
    have := hcon y hfi
    subst this
    refine ITri.seq ?_
    have hNo' := fun T => apd_low (T := T) _ hNo
    have hNk' := fun T => apd_low (T := T) _ hNk
    refine ITri.reg pokT ?_; simp -implicitDefEqProofs (disch := first | decide | exact of_eq_true (eq_true rfl) | omega | assumption) only [hNo', hcell,  ↓vcD, vcE, evs, evP, evB, intsOf, fillC, Value.cells, pt, List.append_nil, List.nil_append, List.cons_append, List.length_cons, List.length_nil, List.filter_nil, List.map_nil, ↓List.getElem?_cons_zero, ↓List.getElem?_cons_succ, List.getElem?_cons_zero, List.getElem?_cons_succ, List.set_cons_zero, List.set_cons_succ, Option.join_some, Option.join_none, Option.map_some, List.all_cons, List.all_nil, Value.oneCell', reduceIte, reduceCtorEq, Nat.reduceEqDiff, Nat.reduceAdd, Nat.reduceMul, Nat.reduceLT, Nat.reduceBEq, Nat.reduceLeDiff, Nat.reduceSub, List.size_toArray] -- r10 ref.go:227
    simp only [slC, rowC, hyl]
    refine ITri.ret ?_; exact end_ownG (k := B + k) (by omega) (rows_no _) (hNk' _) rfl
  | true =>
    refine ITri.reg pokT ?_; simp -implicitDefEqProofs (disch := first | decide | exact of_eq_true (eq_true rfl) | omega | assumption) only [hb,  ↓vcD, vcE, evs, evP, evB, intsOf, fillC, Value.cells, pt, List.append_nil, List.nil_append, List.cons_append, List.length_cons, List.length_nil, List.filter_nil, List.map_nil, ↓List.getElem?_cons_zero, ↓List.getElem?_cons_succ, List.getElem?_cons_zero, List.getElem?_cons_succ, List.set_cons_zero, List.set_cons_succ, Option.join_some, Option.join_none, Option.map_some, List.all_cons, List.all_nil, Value.oneCell', reduceIte, reduceCtorEq, Nat.reduceEqDiff, Nat.reduceAdd, Nat.reduceMul, Nat.reduceLT, Nat.reduceBEq, Nat.reduceLeDiff, Nat.reduceSub, List.size_toArray] -- r9 ref.go:226
    refine ITri.cond (v := false) rfl (fun h => by cases h) (fun _ => ?_); refine ITri.skip ?_; simp only [SeqQ_normal, BlkQ_normal]
    refine ITri.reg pokT ?_; simp -implicitDefEqProofs (disch := first | decide | exact of_eq_true (eq_true rfl) | omega | assumption) only [ ↓vcD, vcE, evs, evP, evB, intsOf, fillC, Value.cells, pt, List.append_nil, List.nil_append, List.cons_append, List.length_cons, List.length_nil, List.filter_nil, List.map_nil, ↓List.getElem?_cons_zero, ↓List.getElem?_cons_succ, List.getElem?_cons_zero, List.getElem?_cons_succ, List.set_cons_zero, List.set_cons_succ, Option.join_some, Option.join_none, Option.map_some, List.all_cons, List.all_nil, Value.oneCell', reduceIte, reduceCtorEq, Nat.reduceEqDiff, Nat.reduceAdd, Nat.reduceMul, Nat.reduceLT, Nat.reduceBEq, Nat.reduceLeDiff, Nat.reduceSub, List.size_toArray] -- r7 ref.go:225
    subst hNN
    rw [List.append_assoc]
    refine LoopQ.next (k + 1, T ++ [some (AObj.cells ⟨[.int .i64 (firstF (sqL l tol y)).1, .int .i64 (firstF (sqL l tol y)).2.1], 1, false⟩)]) ⟨by simp only; omega, ?_⟩ (by simp only; omega) (Wk.sub ⟨rfl, rfl, rfl, rfl, rfl, rfl, trivial⟩)
    simp only
    rw [htk, List.find?_append, hF]
    simp [hap, hb]
end Go.Proofs.Ytlkfcbdbieenhaa
