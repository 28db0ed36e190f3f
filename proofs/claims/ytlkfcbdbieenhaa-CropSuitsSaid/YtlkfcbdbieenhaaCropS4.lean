/-
  Chapter 7, suits, by names: a setting is the least, and suits.
-/
import Derived.Test.YtlkfcbdbieenhaaCropS3
set_option linter.unusedSimpArgs false
set_option linter.unusedVariables false
namespace Go.Proofs.Ytlkfcbdbieenhaa
open Go.RowKit Go.Vm
set_option maxRecDepth 100000
set_option maxHeartbeats 1000000 in
theorem suits_A1 (n c : Nat) (l : List Tl) (tol sx sy b a1 a2 : Int) (hn : l.length = n) (hb0 : 0 ≤ b) (hb1 : b ≤ 255) (hck : ckT l tol = 0) (hF : (firstF (sqL l tol (upN 0 l.length))) = (a1, a2, true)) :
    ITri Try.prog 348 none 2 ir11_24 [(1, .int .u8 b), (2, pt 2), (5, pt 3), (6, .int .i64 0), (7, .slice (some ⟨4, 0, none⟩) 0 openB), (8, .int .i64 73), (9, .bool (sutB l tol sx sy)), (54, .int .i64 0), (55, .bool true)] [] (Hp 2 (m3 n c l tol sx sy [some (.cells ⟨[.int .i64 a1, .int .i64 a2], 1, false⟩), some (.cells ⟨[], 1, true⟩)])) qS := by
  have hA := suits_A2 n c l tol sx sy b a1 a2 hn hb0 hb1 hck hF
  obtain ⟨c1, c2, c3, c4, c5⟩ := ck_ok hck
  have hne : l ≠ [] := fun e => by rw [e] at c2; simp at c2
  have hs := first_some (a := sqL l tol (upN 0 l.length)) (by rw [hF])
  rw [hF] at hs
  simp only at hs
  have hsu : sutB l tol a1 a2 = true := (sut_iff c3 hne).2 ⟨sq_rng c3 hne c5 hs.1, hs.1⟩
  have htr : sutB l tol sx sy = true → a1 < sx ∨ a1 = sx ∧ a2 ≤ sy := fun h => hs.2 _ _ ((sut_iff c3 hne).1 h).2
  have hgo : ∀ lf, lk lf 1 = some (.int .u8 b) → lk lf 2 = some (pt 2) → lk lf 5 = some (pt 3) → ITri Try.prog 348 none 2 ir11_23 lf [] (Hp 2 (m3 n c l tol sx sy [some (.cells ⟨[.int .i64 a1, .int .i64 a2], 1, false⟩), some (.cells ⟨[], 1, true⟩)])) qS := fun lf e1 e2 e3 => by
    refine ITri.weak ?_ hA
    exact Wk.gc [0, 1, 2, 3] [] (of_decide_eq_true rfl) (of_decide_eq_true rfl) rfl rfl (of_decide_eq_true rfl) rfl rfl (fun _ h => by cases h) rfl (by simp [objOK, objAt, OM, mvL, mv, mvS, okML, okM, okS, mvL_rows, okML_rows, sgL, xiL]) (by simp [valOK, xiL, e1, e2, e3]; exact ⟨rfl, trivial, rfl, ⟨show 2 < 4 by decide, trivial⟩, rfl, ⟨show 3 < 4 by decide, trivial⟩⟩) (fun _ h => by cases h) ⟨rfl, fun _ h => by cases h⟩
  refine ITri.seq ?_
  refine ITri.seq ?_
  cases ht : sutB l tol sx sy with
  | false =>
    refine ITri.reg pokT ?_; simp -implicitDefEqProofs (disch := first | decide | exact of_eq_true (eq_true rfl) | omega | assumption) only [eq_self, decide_true, Int.natCast_zero,  ↓vcD, vcE, evs, evP, evB, intsOf, fillC, Value.cells, pt, List.append_nil, List.nil_append, List.cons_append, List.length_cons, List.length_nil, List.filter_nil, List.map_nil, ↓List.getElem?_cons_zero, ↓List.getElem?_cons_succ, List.getElem?_cons_zero, List.getElem?_cons_succ, List.set_cons_zero, List.set_cons_succ, Option.join_some, Option.join_none, Option.map_some, List.all_cons, List.all_nil, Value.oneCell', reduceIte, reduceCtorEq, Nat.reduceEqDiff, Nat.reduceAdd, Nat.reduceMul, Nat.reduceLT, Nat.reduceBEq, Nat.reduceLeDiff, Nat.reduceSub, List.size_toArray] -- r8
    refine ⟨_, _, suits_f n l tol a1 a2 hn (by omega) (sees0 rfl (of_decide_eq_true rfl)) (Rd.hq rfl rfl), ?_⟩
    simp -implicitDefEqProofs (disch := first | decide | exact of_eq_true (eq_true rfl) | omega | assumption) only [hsu,  ↓vcD, vcE, evs, evP, evB, intsOf, fillC, Value.cells, pt, List.append_nil, List.nil_append, List.cons_append, List.length_cons, List.length_nil, List.filter_nil, List.map_nil, ↓List.getElem?_cons_zero, ↓List.getElem?_cons_succ, List.getElem?_cons_zero, List.getElem?_cons_succ, List.set_cons_zero, List.set_cons_succ, Option.join_some, Option.join_none, Option.map_some, List.all_cons, List.all_nil, Value.oneCell', reduceIte, reduceCtorEq, Nat.reduceEqDiff, Nat.reduceAdd, Nat.reduceMul, Nat.reduceLT, Nat.reduceBEq, Nat.reduceLeDiff, Nat.reduceSub, List.size_toArray]
    refine ITri.cond (v := false) rfl (fun h => by cases h) (fun _ => ?_); refine ITri.skip ?_; simp only [SeqQ_normal, BlkQ_normal]
    exact hgo _ rfl rfl rfl
  | true =>
    rcases htr ht with h | ⟨h, h2⟩
    · have g1 : ¬ sx < a1 := by omega
      have g2 : ¬ sx = a1 := by omega
      refine ITri.reg pokT ?_; simp -implicitDefEqProofs (disch := first | decide | exact of_eq_true (eq_true rfl) | omega | assumption) only [eq_self, decide_true, Int.natCast_zero,  ↓vcD, vcE, evs, evP, evB, intsOf, fillC, Value.cells, pt, List.append_nil, List.nil_append, List.cons_append, List.length_cons, List.length_nil, List.filter_nil, List.map_nil, ↓List.getElem?_cons_zero, ↓List.getElem?_cons_succ, List.getElem?_cons_zero, List.getElem?_cons_succ, List.set_cons_zero, List.set_cons_succ, Option.join_some, Option.join_none, Option.map_some, List.all_cons, List.all_nil, Value.oneCell', reduceIte, reduceCtorEq, Nat.reduceEqDiff, Nat.reduceAdd, Nat.reduceMul, Nat.reduceLT, Nat.reduceBEq, Nat.reduceLeDiff, Nat.reduceSub, List.size_toArray] -- r8
      refine ⟨_, _, suits_f n l tol a1 a2 hn (by omega) (sees0 rfl (of_decide_eq_true rfl)) (Rd.hq rfl rfl), ?_⟩
      simp -implicitDefEqProofs (disch := first | decide | exact of_eq_true (eq_true rfl) | omega | assumption) only [hsu, g1, g2, decide_false,  ↓vcD, vcE, evs, evP, evB, intsOf, fillC, Value.cells, pt, List.append_nil, List.nil_append, List.cons_append, List.length_cons, List.length_nil, List.filter_nil, List.map_nil, ↓List.getElem?_cons_zero, ↓List.getElem?_cons_succ, List.getElem?_cons_zero, List.getElem?_cons_succ, List.set_cons_zero, List.set_cons_succ, Option.join_some, Option.join_none, Option.map_some, List.all_cons, List.all_nil, Value.oneCell', reduceIte, reduceCtorEq, Nat.reduceEqDiff, Nat.reduceAdd, Nat.reduceMul, Nat.reduceLT, Nat.reduceBEq, Nat.reduceLeDiff, Nat.reduceSub, List.size_toArray]
      refine ITri.cond (v := false) rfl (fun h => by cases h) (fun _ => ?_); refine ITri.skip ?_; simp only [SeqQ_normal, BlkQ_normal]
      exact hgo _ rfl rfl rfl
    · subst h
      have g1 : ¬ a1 < a1 := by omega
      have g2 : ¬ sy < a2 := by omega
      refine ITri.reg pokT ?_; simp -implicitDefEqProofs (disch := first | decide | exact of_eq_true (eq_true rfl) | omega | assumption) only [eq_self, decide_true, Int.natCast_zero,  ↓vcD, vcE, evs, evP, evB, intsOf, fillC, Value.cells, pt, List.append_nil, List.nil_append, List.cons_append, List.length_cons, List.length_nil, List.filter_nil, List.map_nil, ↓List.getElem?_cons_zero, ↓List.getElem?_cons_succ, List.getElem?_cons_zero, List.getElem?_cons_succ, List.set_cons_zero, List.set_cons_succ, Option.join_some, Option.join_none, Option.map_some, List.all_cons, List.all_nil, Value.oneCell', reduceIte, reduceCtorEq, Nat.reduceEqDiff, Nat.reduceAdd, Nat.reduceMul, Nat.reduceLT, Nat.reduceBEq, Nat.reduceLeDiff, Nat.reduceSub, List.size_toArray] -- r8
      refine ⟨_, _, suits_f n l tol a1 a2 hn (by omega) (sees0 rfl (of_decide_eq_true rfl)) (Rd.hq rfl rfl), ?_⟩
      simp -implicitDefEqProofs (disch := first | decide | exact of_eq_true (eq_true rfl) | omega | assumption) only [hsu, g1, g2, eq_self, decide_true, decide_false,  ↓vcD, vcE, evs, evP, evB, intsOf, fillC, Value.cells, pt, List.append_nil, List.nil_append, List.cons_append, List.length_cons, List.length_nil, List.filter_nil, List.map_nil, ↓List.getElem?_cons_zero, ↓List.getElem?_cons_succ, List.getElem?_cons_zero, List.getElem?_cons_succ, List.set_cons_zero, List.set_cons_succ, Option.join_some, Option.join_none, Option.map_some, List.all_cons, List.all_nil, Value.oneCell', reduceIte, reduceCtorEq, Nat.reduceEqDiff, Nat.reduceAdd, Nat.reduceMul, Nat.reduceLT, Nat.reduceBEq, Nat.reduceLeDiff, Nat.reduceSub, List.size_toArray]
      refine ITri.cond (v := false) rfl (fun h => by cases h) (fun _ => ?_); refine ITri.skip ?_; simp only [SeqQ_normal, BlkQ_normal]
      exact hgo _ rfl rfl rfl
end Go.Proofs.Ytlkfcbdbieenhaa
