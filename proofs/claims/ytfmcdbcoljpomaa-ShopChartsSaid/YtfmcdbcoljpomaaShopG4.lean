/-
  Chapter 11, by names: the law ShopCharts: each alarm.
-/
import Derived.Test.YtfmcdbcoljpomaaShopG3
set_option linter.unusedSimpArgs false
set_option linter.unusedVariables false
namespace Go.Proofs.Ytfmcdbcoljpomaa
open Go.RowKit Go.Vm
set_option maxRecDepth 100000
set_option maxHeartbeats 2000000 in
set_option pp.deepTerms true in
/-- What each alarm must be. -/
theorem charts_r16 {n c m d nn i S K : Nat} {a3 cen cut : Int} {rs : List Ru} {vs : List Int} {A F : List Al} {Q : AEx → Fr → List Nat → AH → Prop} (hS1 : S < m) (hK : K < n) (hm2 : m ≤ 200) (hn8 : n ≤ 8) (hi : i < A.length) (hal : A.length ≤ 3200) (e5 : a3 = 1 ∨ a3 = -1) (hd1 : decide ((S : Int) < nn) = decide (i < F.length)) (htf : i < F.length → takeC (rows eU F) (i * 3) 3 = some [.int .i64 S, .int .i64 K, .int .i64 a3])
    (q : Q .normal [(1, .slice (some ⟨2, 0, none⟩) m d), (2, .int .u8 cut), (3, pt 3), (7, .slice (some ⟨4, 0, none⟩) A.length openB), (9, .int .i64 nn), (10, .slice (some ⟨5, 0, none⟩) F.length openB), (11, .int .i64 i), (12, pt 6), (146, .bool false)] [] (Hp 3 (m5 n c cen rs vs A [some (.cells ⟨rows eU F, 3, true⟩), some (.cells ⟨[.int .i64 S, .int .i64 K, .int .i64 a3], 1, false⟩)]))) :
    ITri Try.prog 319 none 3 ir6_r16 (f5 m d cut A [(9, .int .i64 nn), (10, .slice (some ⟨5, 0, none⟩) F.length openB), (11, .int .i64 i), (12, pt 6)]) [] (Hp 3 (m5 n c cen rs vs A [some (.cells ⟨rows eU F, 3, true⟩), some (.cells ⟨[.int .i64 S, .int .i64 K, .int .i64 a3], 1, false⟩)])) Q := by
  refine ITri.one (P := Try.prog) [(1, .slice (some ⟨2, 0, none⟩) m d), (2, .int .u8 cut), (3, pt 3), (7, .slice (some ⟨4, 0, none⟩) A.length openB), (9, .int .i64 nn), (10, .slice (some ⟨5, 0, none⟩) F.length openB), (11, .int .i64 i), (12, pt 6), (146, .bool false)] ?_ q
  have g1 : ¬ (S : Int) < 0 := by omega
  have g2 : ¬ (m : Int) ≤ S := by omega
  have g3 : ¬ (K : Int) < 0 := by omega
  have g4 : ¬ (n : Int) ≤ K := by omega
  by_cases hif : i < F.length
  · rw [decide_eq_true hif] at hd1
    have hS : (S : Int) < nn := of_decide_eq_true hd1
    have hiF : (i : Int) < F.length := by omega
    have htf := htf hif
    have heq := eqU ((S : Int), (K : Int), a3) ((S : Int), (K : Int), a3)
    simp only [decide_true] at heq
    rcases e5 with rfl | rfl
    · refine ITri.draw pokT ?_; simp -implicitDefEqProofs (disch := first | decide | exact of_eq_true (eq_true rfl) | omega | assumption) only [g1, g2, g3, g4, hS, hiF, htf, heq, eq_self, not_true_eq_false, decide_true, decide_false, bne_self_eq_false, Bool.not_true,  ↓vcD, vcE, evs, evP, evB, intsOf, fillC, Value.cells, pt, List.append_nil, List.nil_append, List.cons_append, List.length_cons, List.length_nil, List.filter_nil, List.map_nil, ↓List.getElem?_cons_zero, ↓List.getElem?_cons_succ, List.getElem?_cons_zero, List.getElem?_cons_succ, List.set_cons_zero, List.set_cons_succ, Option.join_some, Option.join_none, Option.map_some, List.all_cons, List.all_nil, Value.oneCell', reduceIte, reduceCtorEq, Nat.reduceEqDiff, Nat.reduceAdd, Nat.reduceMul, Nat.reduceLT, Nat.reduceBEq, Nat.reduceLeDiff, Nat.reduceSub, List.size_toArray]
    · have g5 : ¬ (-1 : Int) = 1 := by decide
      refine ITri.draw pokT ?_; simp -implicitDefEqProofs (disch := first | decide | exact of_eq_true (eq_true rfl) | omega | assumption) only [g1, g2, g3, g4, g5, hS, hiF, htf, heq, eq_self, not_true_eq_false, not_false_eq_true, decide_true, decide_false, bne_self_eq_false, Bool.not_true, Bool.not_false,  ↓vcD, vcE, evs, evP, evB, intsOf, fillC, Value.cells, pt, List.append_nil, List.nil_append, List.cons_append, List.length_cons, List.length_nil, List.filter_nil, List.map_nil, ↓List.getElem?_cons_zero, ↓List.getElem?_cons_succ, List.getElem?_cons_zero, List.getElem?_cons_succ, List.set_cons_zero, List.set_cons_succ, Option.join_some, Option.join_none, Option.map_some, List.all_cons, List.all_nil, Value.oneCell', reduceIte, reduceCtorEq, Nat.reduceEqDiff, Nat.reduceAdd, Nat.reduceMul, Nat.reduceLT, Nat.reduceBEq, Nat.reduceLeDiff, Nat.reduceSub, List.size_toArray]
  · rw [decide_eq_false hif] at hd1
    have hS : ¬ (S : Int) < nn := of_decide_eq_false hd1
    have hiF : ¬ (i : Int) < F.length := by omega
    rcases e5 with rfl | rfl
    · refine ITri.draw pokT ?_; simp -implicitDefEqProofs (disch := first | decide | exact of_eq_true (eq_true rfl) | omega | assumption) only [g1, g2, g3, g4, hS, hiF, eq_self, not_true_eq_false, decide_true, decide_false, bne_self_eq_false, Bool.not_true,  ↓vcD, vcE, evs, evP, evB, intsOf, fillC, Value.cells, pt, List.append_nil, List.nil_append, List.cons_append, List.length_cons, List.length_nil, List.filter_nil, List.map_nil, ↓List.getElem?_cons_zero, ↓List.getElem?_cons_succ, List.getElem?_cons_zero, List.getElem?_cons_succ, List.set_cons_zero, List.set_cons_succ, Option.join_some, Option.join_none, Option.map_some, List.all_cons, List.all_nil, Value.oneCell', reduceIte, reduceCtorEq, Nat.reduceEqDiff, Nat.reduceAdd, Nat.reduceMul, Nat.reduceLT, Nat.reduceBEq, Nat.reduceLeDiff, Nat.reduceSub, List.size_toArray]
    · have g5 : ¬ (-1 : Int) = 1 := by decide
      refine ITri.draw pokT ?_; simp -implicitDefEqProofs (disch := first | decide | exact of_eq_true (eq_true rfl) | omega | assumption) only [g1, g2, g3, g4, g5, hS, hiF, eq_self, not_true_eq_false, not_false_eq_true, decide_true, decide_false, bne_self_eq_false, Bool.not_true, Bool.not_false,  ↓vcD, vcE, evs, evP, evB, intsOf, fillC, Value.cells, pt, List.append_nil, List.nil_append, List.cons_append, List.length_cons, List.length_nil, List.filter_nil, List.map_nil, ↓List.getElem?_cons_zero, ↓List.getElem?_cons_succ, List.getElem?_cons_zero, List.getElem?_cons_succ, List.set_cons_zero, List.set_cons_succ, Option.join_some, Option.join_none, Option.map_some, List.all_cons, List.all_nil, Value.oneCell', reduceIte, reduceCtorEq, Nat.reduceEqDiff, Nat.reduceAdd, Nat.reduceMul, Nat.reduceLT, Nat.reduceBEq, Nat.reduceLeDiff, Nat.reduceSub, List.size_toArray]
end Go.Proofs.Ytfmcdbcoljpomaa
