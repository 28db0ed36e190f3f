/-
  Chapters 4 and 7 at the top: runOf.
-/
import Derived.Test.YteddklolpcpjaaaGrD
set_option linter.unusedSimpArgs false
set_option linter.unusedVariables false
namespace Go.Proofs.Yteddklolpcpjaaa
open Go.RowKit Go.Vm
set_option maxRecDepth 1000000
/- boule/bouletop.runOf · slots 18 · names 0:r 1:r · results [2] -/
def ir7_r0 : IC := .reg [⟨some 1, none, false, .box (.t 0)⟩,
  ⟨some 2, none, false, .alloc [(.slice none 0 0), (.int .i64 0), (.slice none 0 0), (.slice none 0 0)]⟩] (some [1, 2])
def ir7_r1 : IC := .draw [(⟨some 3, none, false, .bsl 8 0 [] []⟩, false, 0, 8713),
  (⟨some 4, none, false, .fad 0 (.t 1)⟩, false, 0, 0),
  (⟨some 5, none, false, .ldc (.t 4)⟩, false, 2, 8713),
  (⟨some 6, none, false, .app 8 64 (.t 3) (.t 5)⟩, false, 7, 8713),
  (⟨some 7, none, false, .fad 1 (.t 1)⟩, false, 0, 0),
  (⟨some 8, none, false, .ldc (.t 7)⟩, false, 16, 8720),
  (⟨some 9, none, false, .bsl 3 0 [] []⟩, false, 0, 8736),
  (⟨some 10, none, false, .fad 2 (.t 1)⟩, false, 0, 0),
  (⟨some 11, none, false, .ldc (.t 10)⟩, false, 128, 8736),
  (⟨some 12, none, false, .app 3 24 (.t 9) (.t 11)⟩, false, 463, 8729),
  (⟨some 13, none, false, .bsl 2 0 [] []⟩, false, 0, 9184),
  (⟨some 14, none, false, .fad 3 (.t 1)⟩, false, 0, 0),
  (⟨some 15, none, false, .ldc (.t 14)⟩, false, 2048, 9184),
  (⟨some 16, none, false, .app 2 16 (.t 13) (.t 15)⟩, false, 8143, 8729),
  (⟨some 17, none, false, .bld [(.slice none 0 0), (.int .i64 0), (.slice none 0 0), (.slice none 0 0)] [(0, 1, (.t 6)), (1, 1, (.t 8)), (2, 1, (.t 12)), (3, 1, (.t 16))]⟩, false, 16383, 0),
  (⟨none, none, false, .st 4 (.t 2) (.t 17)⟩, true, 32767, 0)] (some [2])
def ir7_1 : IC := .seq ir7_r1 .ret
def ir7_2 : IC := .seq ir7_r0 ir7_1
def ir7 : IC := ir7_2
theorem fn7 : FnIs Try.prog 7 ir7 18 [.cell 2 35] := ⟨Try.f7, Try.f7.body.getD .skip, Try.func7, by kernel_rfl, by kernel_rfl, by kernel_rfl, by kernel_rfl⟩
section
variable {T : List St} {S : List Sm} {X : List (Int × Int)} {E : Int} {nT nS nX cT cS cX : Nat}
set_option maxHeartbeats 2000000 in
theorem runOf_c (hT : T.length = nT) (hS : S.length = nS) (hX : X.length = nX) (b1 : nT ≤ 1000) (b2 : nS ≤ 1000) (b3 : nX ≤ 1000) :
    Fc Try.prog 7 [ruV (s1 nT cT) (s2 nS cS) (s3 nX cX) E] (Hp 4 (M4 T S X)) (ruV (sO 4 nT) (sO 5 nS) (sO 6 nX) E) ((Hp 4 (M4 T S X)).news [.cells ⟨rows eT T, 8, true⟩, .cells ⟨rows eM S, 3, true⟩, .cells ⟨rows eII X, 2, true⟩]) := by
  refine Fc.introR fn7 (by simp) rfl rfl ?_; simp only [argF]
  have hl1 : (rows eT T).length = nT * 8 := by rw [rows_len (f := eT), hT]
  have hl2 : (rows eM S).length = nS * 3 := by rw [rows_len (f := eM), hS]
  have hl3 : (rows eII X).length = nX * 2 := by rw [rows_len (f := eII), hX]
  have ht1 : takeC (rows eT T) 0 (nT * 8) = some (rows eT T) := takeC_0 _ _ hl1
  have ht2 : takeC (rows eM S) 0 (nS * 3) = some (rows eM S) := takeC_0 _ _ hl2
  have ht3 : takeC (rows eII X) 0 (nX * 2) = some (rows eII X) := takeC_0 _ _ hl3
  have wr4 : ∀ a b c d z0 z1 z2 z3 : Value, writeAt [z0, z1, z2, z3] 0 [a, b, c, d] = [a, b, c, d] := fun a b c d z0 z1 z2 z3 => rfl
  refine ITri.seq ?_
  refine ITri.reg pok ?_; simp -implicitDefEqProofs (disch := first | decide | exact of_eq_true (eq_true rfl) | omega | assumption) only [ ↓vcD, vcE, ↓vcG, vcF, evs, evP, evB, intsOf, fillC, Value.cells, pt, Value.oneCell', reduceIte, reduceCtorEq, Nat.reduceEqDiff, Nat.reduceAdd, Nat.reduceMul, Nat.reduceLT, Nat.reduceBEq, Nat.reduceLeDiff, Nat.reduceSub] -- r0
  refine ITri.seq ?_
  have hend : ITri Try.prog 18 none 4 .ret [(2, pt 4)] [] (Hp 4 [none, some (.cells ⟨rows eT T, 0, false⟩), some (.cells ⟨rows eM S, 0, false⟩), some (.cells ⟨rows eII X, 0, false⟩), some (.cells ⟨[sO 5 nT, I6 E, sO 6 nS, sO 7 nX], 1, false⟩), some (.cells ⟨rows eT T, 8, true⟩), some (.cells ⟨rows eM S, 3, true⟩), some (.cells ⟨rows eII X, 2, true⟩)]) (EndR Try.prog [.cell 2 35] 4 [.cells ⟨rows eT T, 8, true⟩, .cells ⟨rows eM S, 3, true⟩, .cells ⟨rows eII X, 2, true⟩] (ruV (sO 4 nT) (sO 5 nS) (sO 6 nX) E)) := by
    refine ITri.ret ?_
    exact end_run (rows_no (f := eT) T) (rows_no (f := eM) S) (rows_no (f := eII) X) rfl rfl rfl (resF_agg (cs := [sO 5 nT, I6 E, sO 6 nS, sO 7 nX]) 4 rfl (by kernel_rfl) (cells_all rfl rfl) resF_nil)
  by_cases h0 : nT = 0
  · obtain rfl : T = [] := List.eq_nil_of_length_eq_zero (by omega)
    subst h0
    by_cases h1 : nS = 0
    · obtain rfl : S = [] := List.eq_nil_of_length_eq_zero (by omega)
      subst h1
      by_cases h2 : nX = 0
      · obtain rfl : X = [] := List.eq_nil_of_length_eq_zero (by omega)
        subst h2
        refine ITri.draw pok ?_; simp -implicitDefEqProofs (disch := first | decide | exact of_eq_true (eq_true rfl) | omega | assumption) only [appK_0, rows_nil, rows_allT, wr4, List.nil_append,  ↓vcD, vcE, ↓vcG, vcF, evs, evP, evB, intsOf, fillC, Value.cells, pt, Value.oneCell', reduceIte, reduceCtorEq, Nat.reduceEqDiff, Nat.reduceAdd, Nat.reduceMul, Nat.reduceLT, Nat.reduceBEq, Nat.reduceLeDiff, Nat.reduceSub] -- r1
        exact (fun W => ITri.weak W hend) (Wk.gc [0, 1, 2, 3, 5, 6, 7, 8] [(5, .room 0), (6, .room 0), (7, .room 0)] (of_decide_eq_true rfl) (of_decide_eq_true rfl) rfl rfl (of_decide_eq_true rfl) rfl rfl (by repeat (first | exact xiOK_nil | refine xiOK_cons (by first | trivial | exact roomOK _ (by decide)) ?_)) rfl (by simp -implicitDefEqProofs (disch := first | decide | exact of_eq_true (eq_true rfl) | omega | assumption) only [rows_nil, objOK, sgL, xiL, objAt, nilO, OM, mvL, mv, mvS, okS, okP, mvL_rows, okML, okM, okML_rows, List.getElem?_cons_zero, Option.getD_some, implies_true, imp_self, ne_eq, and_self, true_or, or_true, Nat.zero_mul, Nat.sub_self, openB_self, ↓vcD, vcE, ↓vcG, vcF, evs, evP, evB, intsOf, fillC, Value.cells, pt, Value.oneCell', reduceIte, reduceCtorEq, Nat.reduceEqDiff, Nat.reduceAdd, Nat.reduceMul, Nat.reduceLT, Nat.reduceBEq, Nat.reduceLeDiff, Nat.reduceSub]) (by simp -implicitDefEqProofs (disch := first | decide | exact of_eq_true (eq_true rfl) | omega | assumption) only [rows_nil, valOK, sgL, xiL, mv, mvA, mvL, mvS, okS, okP, okM, okMA, okML, Option.getD_some, implies_true, and_self, true_or, or_true, Int.natCast_add, Int.cast_ofNat_Int, Nat.zero_mul, Nat.sub_self, openB_self, ↓vcD, vcE, ↓vcG, vcF, evs, evP, evB, intsOf, fillC, Value.cells, pt, Value.oneCell', reduceIte, reduceCtorEq, Nat.reduceEqDiff, Nat.reduceAdd, Nat.reduceMul, Nat.reduceLT, Nat.reduceBEq, Nat.reduceLeDiff, Nat.reduceSub]) (fun _ h => by cases h) ⟨rfl, fun _ h => by cases h⟩)
      · skip
        refine ITri.draw pok ?_; simp -implicitDefEqProofs (disch := first | decide | exact of_eq_true (eq_true rfl) | omega | assumption) only [appK_0, rows_nil, rows_allT, wr4, List.nil_append, ht3, hl3,  ↓vcD, vcE, ↓vcG, vcF, evs, evP, evB, intsOf, fillC, Value.cells, pt, Value.oneCell', reduceIte, reduceCtorEq, Nat.reduceEqDiff, Nat.reduceAdd, Nat.reduceMul, Nat.reduceLT, Nat.reduceBEq, Nat.reduceLeDiff, Nat.reduceSub] -- r1
        exact (fun W => ITri.weak W hend) (Wk.gc [0, 1, 2, 3, 5, 6, 7, 9] [(5, .room 0), (6, .room 0)] (of_decide_eq_true rfl) (of_decide_eq_true rfl) rfl rfl (of_decide_eq_true rfl) rfl rfl (by repeat (first | exact xiOK_nil | refine xiOK_cons (by first | trivial | exact roomOK _ (by decide)) ?_)) rfl (by simp -implicitDefEqProofs (disch := first | decide | exact of_eq_true (eq_true rfl) | omega | assumption) only [rows_nil, objOK, sgL, xiL, objAt, nilO, OM, mvL, mv, mvS, okS, okP, mvL_rows, okML, okM, okML_rows, List.getElem?_cons_zero, Option.getD_some, implies_true, imp_self, ne_eq, and_self, true_or, or_true, Nat.zero_mul, Nat.sub_self, openB_self, ↓vcD, vcE, ↓vcG, vcF, evs, evP, evB, intsOf, fillC, Value.cells, pt, Value.oneCell', reduceIte, reduceCtorEq, Nat.reduceEqDiff, Nat.reduceAdd, Nat.reduceMul, Nat.reduceLT, Nat.reduceBEq, Nat.reduceLeDiff, Nat.reduceSub]) (by simp -implicitDefEqProofs (disch := first | decide | exact of_eq_true (eq_true rfl) | omega | assumption) only [rows_nil, valOK, sgL, xiL, mv, mvA, mvL, mvS, okS, okP, okM, okMA, okML, Option.getD_some, implies_true, and_self, true_or, or_true, Int.natCast_add, Int.cast_ofNat_Int, Nat.zero_mul, Nat.sub_self, openB_self, ↓vcD, vcE, ↓vcG, vcF, evs, evP, evB, intsOf, fillC, Value.cells, pt, Value.oneCell', reduceIte, reduceCtorEq, Nat.reduceEqDiff, Nat.reduceAdd, Nat.reduceMul, Nat.reduceLT, Nat.reduceBEq, Nat.reduceLeDiff, Nat.reduceSub]) (fun _ h => by cases h) ⟨rfl, fun _ h => by cases h⟩)
    · skip
      by_cases h2 : nX = 0
      · obtain rfl : X = [] := List.eq_nil_of_length_eq_zero (by omega)
        subst h2
        refine ITri.draw pok ?_; simp -implicitDefEqProofs (disch := first | decide | exact of_eq_true (eq_true rfl) | omega | assumption) only [appK_0, rows_nil, rows_allT, wr4, List.nil_append, ht2, hl2,  ↓vcD, vcE, ↓vcG, vcF, evs, evP, evB, intsOf, fillC, Value.cells, pt, Value.oneCell', reduceIte, reduceCtorEq, Nat.reduceEqDiff, Nat.reduceAdd, Nat.reduceMul, Nat.reduceLT, Nat.reduceBEq, Nat.reduceLeDiff, Nat.reduceSub] -- r1
        exact (fun W => ITri.weak W hend) (Wk.gc [0, 1, 2, 3, 5, 6, 8, 9] [(5, .room 0), (7, .room 0)] (of_decide_eq_true rfl) (of_decide_eq_true rfl) rfl rfl (of_decide_eq_true rfl) rfl rfl (by repeat (first | exact xiOK_nil | refine xiOK_cons (by first | trivial | exact roomOK _ (by decide)) ?_)) rfl (by simp -implicitDefEqProofs (disch := first | decide | exact of_eq_true (eq_true rfl) | omega | assumption) only [rows_nil, objOK, sgL, xiL, objAt, nilO, OM, mvL, mv, mvS, okS, okP, mvL_rows, okML, okM, okML_rows, List.getElem?_cons_zero, Option.getD_some, implies_true, imp_self, ne_eq, and_self, true_or, or_true, Nat.zero_mul, Nat.sub_self, openB_self, ↓vcD, vcE, ↓vcG, vcF, evs, evP, evB, intsOf, fillC, Value.cells, pt, Value.oneCell', reduceIte, reduceCtorEq, Nat.reduceEqDiff, Nat.reduceAdd, Nat.reduceMul, Nat.reduceLT, Nat.reduceBEq, Nat.reduceLeDiff, Nat.reduceSub]) (by simp -implicitDefEqProofs (disch := first | decide | exact of_eq_true (eq_true rfl) | omega | assumption) only [rows_nil, valOK, sgL, xiL, mv, mvA, mvL, mvS, okS, okP, okM, okMA, okML, Option.getD_some, implies_true, and_self, true_or, or_true, Int.natCast_add, Int.cast_ofNat_Int, Nat.zero_mul, Nat.sub_self, openB_self, ↓vcD, vcE, ↓vcG, vcF, evs, evP, evB, intsOf, fillC, Value.cells, pt, Value.oneCell', reduceIte, reduceCtorEq, Nat.reduceEqDiff, Nat.reduceAdd, Nat.reduceMul, Nat.reduceLT, Nat.reduceBEq, Nat.reduceLeDiff, Nat.reduceSub]) (fun _ h => by cases h) ⟨rfl, fun _ h => by cases h⟩)
      · skip
        refine ITri.draw pok ?_; simp -implicitDefEqProofs (disch := first | decide | exact of_eq_true (eq_true rfl) | omega | assumption) only [appK_0, rows_nil, rows_allT, wr4, List.nil_append, ht2, hl2, ht3, hl3,  ↓vcD, vcE, ↓vcG, vcF, evs, evP, evB, intsOf, fillC, Value.cells, pt, Value.oneCell', reduceIte, reduceCtorEq, Nat.reduceEqDiff, Nat.reduceAdd, Nat.reduceMul, Nat.reduceLT, Nat.reduceBEq, Nat.reduceLeDiff, Nat.reduceSub] -- r1
        exact (fun W => ITri.weak W hend) (Wk.gc [0, 1, 2, 3, 5, 6, 8, 10] [(5, .room 0)] (of_decide_eq_true rfl) (of_decide_eq_true rfl) rfl rfl (of_decide_eq_true rfl) rfl rfl (by repeat (first | exact xiOK_nil | refine xiOK_cons (by first | trivial | exact roomOK _ (by decide)) ?_)) rfl (by simp -implicitDefEqProofs (disch := first | decide | exact of_eq_true (eq_true rfl) | omega | assumption) only [rows_nil, objOK, sgL, xiL, objAt, nilO, OM, mvL, mv, mvS, okS, okP, mvL_rows, okML, okM, okML_rows, List.getElem?_cons_zero, Option.getD_some, implies_true, imp_self, ne_eq, and_self, true_or, or_true, Nat.zero_mul, Nat.sub_self, openB_self, ↓vcD, vcE, ↓vcG, vcF, evs, evP, evB, intsOf, fillC, Value.cells, pt, Value.oneCell', reduceIte, reduceCtorEq, Nat.reduceEqDiff, Nat.reduceAdd, Nat.reduceMul, Nat.reduceLT, Nat.reduceBEq, Nat.reduceLeDiff, Nat.reduceSub]) (by simp -implicitDefEqProofs (disch := first | decide | exact of_eq_true (eq_true rfl) | omega | assumption) only [rows_nil, valOK, sgL, xiL, mv, mvA, mvL, mvS, okS, okP, okM, okMA, okML, Option.getD_some, implies_true, and_self, true_or, or_true, Int.natCast_add, Int.cast_ofNat_Int, Nat.zero_mul, Nat.sub_self, openB_self, ↓vcD, vcE, ↓vcG, vcF, evs, evP, evB, intsOf, fillC, Value.cells, pt, Value.oneCell', reduceIte, reduceCtorEq, Nat.reduceEqDiff, Nat.reduceAdd, Nat.reduceMul, Nat.reduceLT, Nat.reduceBEq, Nat.reduceLeDiff, Nat.reduceSub]) (fun _ h => by cases h) ⟨rfl, fun _ h => by cases h⟩)
  · skip
    by_cases h1 : nS = 0
    · obtain rfl : S = [] := List.eq_nil_of_length_eq_zero (by omega)
      subst h1
      by_cases h2 : nX = 0
      · obtain rfl : X = [] := List.eq_nil_of_length_eq_zero (by omega)
        subst h2
        refine ITri.draw pok ?_; simp -implicitDefEqProofs (disch := first | decide | exact of_eq_true (eq_true rfl) | omega | assumption) only [appK_0, rows_nil, rows_allT, wr4, List.nil_append, ht1, hl1,  ↓vcD, vcE, ↓vcG, vcF, evs, evP, evB, intsOf, fillC, Value.cells, pt, Value.oneCell', reduceIte, reduceCtorEq, Nat.reduceEqDiff, Nat.reduceAdd, Nat.reduceMul, Nat.reduceLT, Nat.reduceBEq, Nat.reduceLeDiff, Nat.reduceSub] -- r1
        exact (fun W => ITri.weak W hend) (Wk.gc [0, 1, 2, 3, 5, 7, 8, 9] [(6, .room 0), (7, .room 0)] (of_decide_eq_true rfl) (of_decide_eq_true rfl) rfl rfl (of_decide_eq_true rfl) rfl rfl (by repeat (first | exact xiOK_nil | refine xiOK_cons (by first | trivial | exact roomOK _ (by decide)) ?_)) rfl (by simp -implicitDefEqProofs (disch := first | decide | exact of_eq_true (eq_true rfl) | omega | assumption) only [rows_nil, objOK, sgL, xiL, objAt, nilO, OM, mvL, mv, mvS, okS, okP, mvL_rows, okML, okM, okML_rows, List.getElem?_cons_zero, Option.getD_some, implies_true, imp_self, ne_eq, and_self, true_or, or_true, Nat.zero_mul, Nat.sub_self, openB_self, ↓vcD, vcE, ↓vcG, vcF, evs, evP, evB, intsOf, fillC, Value.cells, pt, Value.oneCell', reduceIte, reduceCtorEq, Nat.reduceEqDiff, Nat.reduceAdd, Nat.reduceMul, Nat.reduceLT, Nat.reduceBEq, Nat.reduceLeDiff, Nat.reduceSub]) (by simp -implicitDefEqProofs (disch := first | decide | exact of_eq_true (eq_true rfl) | omega | assumption) only [rows_nil, valOK, sgL, xiL, mv, mvA, mvL, mvS, okS, okP, okM, okMA, okML, Option.getD_some, implies_true, and_self, true_or, or_true, Int.natCast_add, Int.cast_ofNat_Int, Nat.zero_mul, Nat.sub_self, openB_self, ↓vcD, vcE, ↓vcG, vcF, evs, evP, evB, intsOf, fillC, Value.cells, pt, Value.oneCell', reduceIte, reduceCtorEq, Nat.reduceEqDiff, Nat.reduceAdd, Nat.reduceMul, Nat.reduceLT, Nat.reduceBEq, Nat.reduceLeDiff, Nat.reduceSub]) (fun _ h => by cases h) ⟨rfl, fun _ h => by cases h⟩)
      · skip
        refine ITri.draw pok ?_; simp -implicitDefEqProofs (disch := first | decide | exact of_eq_true (eq_true rfl) | omega | assumption) only [appK_0, rows_nil, rows_allT, wr4, List.nil_append, ht1, hl1, ht3, hl3,  ↓vcD, vcE, ↓vcG, vcF, evs, evP, evB, intsOf, fillC, Value.cells, pt, Value.oneCell', reduceIte, reduceCtorEq, Nat.reduceEqDiff, Nat.reduceAdd, Nat.reduceMul, Nat.reduceLT, Nat.reduceBEq, Nat.reduceLeDiff, Nat.reduceSub] -- r1
        exact (fun W => ITri.weak W hend) (Wk.gc [0, 1, 2, 3, 5, 7, 8, 10] [(6, .room 0)] (of_decide_eq_true rfl) (of_decide_eq_true rfl) rfl rfl (of_decide_eq_true rfl) rfl rfl (by repeat (first | exact xiOK_nil | refine xiOK_cons (by first | trivial | exact roomOK _ (by decide)) ?_)) rfl (by simp -implicitDefEqProofs (disch := first | decide | exact of_eq_true (eq_true rfl) | omega | assumption) only [rows_nil, objOK, sgL, xiL, objAt, nilO, OM, mvL, mv, mvS, okS, okP, mvL_rows, okML, okM, okML_rows, List.getElem?_cons_zero, Option.getD_some, implies_true, imp_self, ne_eq, and_self, true_or, or_true, Nat.zero_mul, Nat.sub_self, openB_self, ↓vcD, vcE, ↓vcG, vcF, evs, evP, evB, intsOf, fillC, Value.cells, pt, Value.oneCell', reduceIte, reduceCtorEq, Nat.reduceEqDiff, Nat.reduceAdd, Nat.reduceMul, Nat.reduceLT, Nat.reduceBEq, Nat.reduceLeDiff, Nat.reduceSub]) (by simp -implicitDefEqProofs (disch := first | decide | exact of_eq_true (eq_true rfl) | omega | assumption) only [rows_nil, valOK, sgL, xiL, mv, mvA, mvL, mvS, okS, okP, okM, okMA, okML, Option.getD_some, implies_true, and_self, true_or, or_true, Int.natCast_add, Int.cast_ofNat_Int, Nat.zero_mul, Nat.sub_self, openB_self, ↓vcD, vcE, ↓vcG, vcF, evs, evP, evB, intsOf, fillC, Value.cells, pt, Value.oneCell', reduceIte, reduceCtorEq, Nat.reduceEqDiff, Nat.reduceAdd, Nat.reduceMul, Nat.reduceLT, Nat.reduceBEq, Nat.reduceLeDiff, Nat.reduceSub]) (fun _ h => by cases h) ⟨rfl, fun _ h => by cases h⟩)
    · skip
      by_cases h2 : nX = 0
      · obtain rfl : X = [] := List.eq_nil_of_length_eq_zero (by omega)
        subst h2
        refine ITri.draw pok ?_; simp -implicitDefEqProofs (disch := first | decide | exact of_eq_true (eq_true rfl) | omega | assumption) only [appK_0, rows_nil, rows_allT, wr4, List.nil_append, ht1, hl1, ht2, hl2,  ↓vcD, vcE, ↓vcG, vcF, evs, evP, evB, intsOf, fillC, Value.cells, pt, Value.oneCell', reduceIte, reduceCtorEq, Nat.reduceEqDiff, Nat.reduceAdd, Nat.reduceMul, Nat.reduceLT, Nat.reduceBEq, Nat.reduceLeDiff, Nat.reduceSub] -- r1
        exact (fun W => ITri.weak W hend) (Wk.gc [0, 1, 2, 3, 5, 7, 9, 10] [(7, .room 0)] (of_decide_eq_true rfl) (of_decide_eq_true rfl) rfl rfl (of_decide_eq_true rfl) rfl rfl (by repeat (first | exact xiOK_nil | refine xiOK_cons (by first | trivial | exact roomOK _ (by decide)) ?_)) rfl (by simp -implicitDefEqProofs (disch := first | decide | exact of_eq_true (eq_true rfl) | omega | assumption) only [rows_nil, objOK, sgL, xiL, objAt, nilO, OM, mvL, mv, mvS, okS, okP, mvL_rows, okML, okM, okML_rows, List.getElem?_cons_zero, Option.getD_some, implies_true, imp_self, ne_eq, and_self, true_or, or_true, Nat.zero_mul, Nat.sub_self, openB_self, ↓vcD, vcE, ↓vcG, vcF, evs, evP, evB, intsOf, fillC, Value.cells, pt, Value.oneCell', reduceIte, reduceCtorEq, Nat.reduceEqDiff, Nat.reduceAdd, Nat.reduceMul, Nat.reduceLT, Nat.reduceBEq, Nat.reduceLeDiff, Nat.reduceSub]) (by simp -implicitDefEqProofs (disch := first | decide | exact of_eq_true (eq_true rfl) | omega | assumption) only [rows_nil, valOK, sgL, xiL, mv, mvA, mvL, mvS, okS, okP, okM, okMA, okML, Option.getD_some, implies_true, and_self, true_or, or_true, Int.natCast_add, Int.cast_ofNat_Int, Nat.zero_mul, Nat.sub_self, openB_self, ↓vcD, vcE, ↓vcG, vcF, evs, evP, evB, intsOf, fillC, Value.cells, pt, Value.oneCell', reduceIte, reduceCtorEq, Nat.reduceEqDiff, Nat.reduceAdd, Nat.reduceMul, Nat.reduceLT, Nat.reduceBEq, Nat.reduceLeDiff, Nat.reduceSub]) (fun _ h => by cases h) ⟨rfl, fun _ h => by cases h⟩)
      · skip
        refine ITri.draw pok ?_; simp -implicitDefEqProofs (disch := first | decide | exact of_eq_true (eq_true rfl) | omega | assumption) only [appK_0, rows_nil, rows_allT, wr4, List.nil_append, ht1, hl1, ht2, hl2, ht3, hl3,  ↓vcD, vcE, ↓vcG, vcF, evs, evP, evB, intsOf, fillC, Value.cells, pt, Value.oneCell', reduceIte, reduceCtorEq, Nat.reduceEqDiff, Nat.reduceAdd, Nat.reduceMul, Nat.reduceLT, Nat.reduceBEq, Nat.reduceLeDiff, Nat.reduceSub] -- r1
        exact (fun W => ITri.weak W hend) (Wk.gc [0, 1, 2, 3, 5, 7, 9, 11] [] (of_decide_eq_true rfl) (of_decide_eq_true rfl) rfl rfl (of_decide_eq_true rfl) rfl rfl (by repeat (first | exact xiOK_nil | refine xiOK_cons (by first | trivial | exact roomOK _ (by decide)) ?_)) rfl (by simp -implicitDefEqProofs (disch := first | decide | exact of_eq_true (eq_true rfl) | omega | assumption) only [rows_nil, objOK, sgL, xiL, objAt, nilO, OM, mvL, mv, mvS, okS, okP, mvL_rows, okML, okM, okML_rows, List.getElem?_cons_zero, Option.getD_some, implies_true, imp_self, ne_eq, and_self, true_or, or_true, Nat.zero_mul, Nat.sub_self, openB_self, ↓vcD, vcE, ↓vcG, vcF, evs, evP, evB, intsOf, fillC, Value.cells, pt, Value.oneCell', reduceIte, reduceCtorEq, Nat.reduceEqDiff, Nat.reduceAdd, Nat.reduceMul, Nat.reduceLT, Nat.reduceBEq, Nat.reduceLeDiff, Nat.reduceSub]) (by simp -implicitDefEqProofs (disch := first | decide | exact of_eq_true (eq_true rfl) | omega | assumption) only [rows_nil, valOK, sgL, xiL, mv, mvA, mvL, mvS, okS, okP, okM, okMA, okML, Option.getD_some, implies_true, and_self, true_or, or_true, Int.natCast_add, Int.cast_ofNat_Int, Nat.zero_mul, Nat.sub_self, openB_self, ↓vcD, vcE, ↓vcG, vcF, evs, evP, evB, intsOf, fillC, Value.cells, pt, Value.oneCell', reduceIte, reduceCtorEq, Nat.reduceEqDiff, Nat.reduceAdd, Nat.reduceMul, Nat.reduceLT, Nat.reduceBEq, Nat.reduceLeDiff, Nat.reduceSub]) (fun _ h => by cases h) ⟨rfl, fun _ h => by cases h⟩)
theorem runOf_f {h : AH} {sT sS sX : Value} (hT : T.length = nT) (hS : S.length = nS) (hX : X.length = nX) (b1 : nT ≤ 1000) (b2 : nS ≤ 1000) (b3 : nX ≤ 1000) (h0 : h.sees 0 = true) (rT : Rd h sT nT (rows eT T)) (rS : Rd h sS nS (rows eM S)) (rX : Rd h sX nX (rows eII X)) :
    Fc Try.prog 7 [ruV sT sS sX E] h (ruV (sO h.next nT) (sO (h.next + 1) nS) (sO (h.next + 2) nX) E) (h.news [.cells ⟨rows eT T, 8, true⟩, .cells ⟨rows eM S, 3, true⟩, .cells ⟨rows eII X, 2, true⟩]) :=
  Fc.lift (os := [(nT, rows eT T, 8), (nS, rows eM S, 3), (nX, rows eII X, 2)]) (mk := fun ss => .agg ⟨ss.take 1 ++ [I6 E] ++ ss.drop 1⟩ :: []) (mkv := fun ss => .agg ⟨ss.take 1 ++ [I6 E] ++ ss.drop 1⟩) (fun caps hc => by
    match caps, hc with
    | [a, b, c], _ =>
      have := runOf_c (cT := a) (cS := b) (cX := c) (E := E) hT hS hX b1 b2 b3
      rw [Hq_news] at this
      exact this) (MkL.agg1 (MkL.split rfl) rfl) (MkV.agg (MkL.split rfl)) no3 (fun o ho => by
      simp only [List.mem_cons, List.not_mem_nil, or_false] at ho
      rcases ho with rfl | rfl | rfl
      · exact rows_no (f := eT) T
      · exact rows_no (f := eM) S
      · exact rows_no (f := eII) X) h0 (rd3 rT rS rX)
end
end Go.Proofs.Yteddklolpcpjaaa
