import Derived.Test.YtgjokhodccacoaaDoorSRecP2
set_option linter.unusedSimpArgs false
set_option linter.unusedVariables false
namespace Go.Proofs.YtgjokhodccacoaaDoor
open Go.RowKit Go.Vm
set_option maxRecDepth 100000
theorem mvI : MvV fun s => s := ⟨fun _ _ _ => rfl, fun _ _ _ h => h⟩
theorem groups_c {N : Nat} (hN : N < 9223372036854775808) : Fc Tryd.prog 92 [.int .i64 N] (Hp 1 [none]) (sO 1 (groups N).length) ((Hp 1 [none]).news [.cells ⟨rows eB (groups N), 1, true⟩]) := by
 have a0 : dvI .rem (N : Int) 128 = ((N % 128 : Nat) : Int) := rfl
 have a1 : dvI .quo (N : Int) 128 = ((N / 128 : Nat) : Int) := rfl
 refine Fc.introR fn92 (by simp) rfl rfl ?_; simp only [argF]
 refine ITri.seq ?_
 refine ITri.reg pok ?_; simp -implicitDefEqProofs (disch := first | decide | exact of_eq_true (eq_true rfl) | omega | assumption) only [ ↓vcD, vcE, ↓vcG, vcF, evs, evP, evB, intsOf, fillC, Value.cells, pt, Value.oneCell', reduceIte, reduceCtorEq, Nat.reduceEqDiff, Nat.reduceAdd, Nat.reduceMul, Nat.reduceLT, Nat.reduceBEq, Nat.reduceLeDiff, Nat.reduceSub]
 refine ITri.seq ?_
 refine ITri.reg pok ?_; simp -implicitDefEqProofs (disch := first | decide | exact of_eq_true (eq_true rfl) | omega | assumption) only [a0,  ↓vcD, vcE, ↓vcG, vcF, evs, evP, evB, intsOf, fillC, Value.cells, pt, Value.oneCell', reduceIte, reduceCtorEq, Nat.reduceEqDiff, Nat.reduceAdd, Nat.reduceMul, Nat.reduceLT, Nat.reduceBEq, Nat.reduceLeDiff, Nat.reduceSub]
 refine ITri.seq ?_
 refine ITri.seq ?_
 refine ITri.reg pok ?_; simp -implicitDefEqProofs (disch := first | decide | exact of_eq_true (eq_true rfl) | omega | assumption) only [a1,  ↓vcD, vcE, ↓vcG, vcF, evs, evP, evB, intsOf, fillC, Value.cells, pt, Value.oneCell', reduceIte, reduceCtorEq, Nat.reduceEqDiff, Nat.reduceAdd, Nat.reduceMul, Nat.reduceLT, Nat.reduceBEq, Nat.reduceLeDiff, Nat.reduceSub]
 have hok : Vm.okS (.room 1) 1 openB := fun _ => ⟨by omega, by omega⟩
 refine ITri.block ?_
 refine ITri.loop (fun s : Nat × List Int => [(0, .int .i64 s.1), (3, sO 1 s.2.length)]) (fun _ => []) (fun s => Hp 1 [none, some (.cells ⟨rows eB s.2, 1, true⟩)]) (GrJ N) (fun s => s.1) (N / 128, [((N % 128 : Nat) : Int)]) (gr_begin hN) (Wk.gc [0, 1] [(1, .room 1)] (of_decide_eq_true rfl) (of_decide_eq_true rfl) rfl rfl (of_decide_eq_true rfl) rfl rfl (by repeat (first | exact xiOK_nil | refine xiOK_cons (by first | trivial | exact roomOK _ (by decide)) ?_)) rfl (by simp -implicitDefEqProofs (disch := first | decide | exact of_eq_true (eq_true rfl) | omega | assumption) only [rows_one, List.length_cons, List.length_nil, hok, objOK, sgL, xiL, objAt, nilO, OM, mvL, mv, mvS, okS, okP, mvL_rows, okML, okM, okML_rows, List.getElem?_cons_zero, Option.getD_some, implies_true, imp_self, ne_eq, and_self, true_or, or_true, Nat.zero_mul, Nat.sub_self, openB_self, ↓vcD, vcE, ↓vcG, vcF, evs, evP, evB, intsOf, fillC, Value.cells, pt, Value.oneCell', reduceIte, reduceCtorEq, Nat.reduceEqDiff, Nat.reduceAdd, Nat.reduceMul, Nat.reduceLT, Nat.reduceBEq, Nat.reduceLeDiff, Nat.reduceSub]) (by simp -implicitDefEqProofs (disch := first | decide | exact of_eq_true (eq_true rfl) | omega | assumption) only [rows_one, List.length_cons, List.length_nil, hok, valOK, sgL, xiL, mv, mvA, mvL, mvS, okS, okP, okM, okMA, okML, Option.getD_some, implies_true, and_self, true_or, or_true, Int.natCast_add, Int.cast_ofNat_Int, Nat.zero_mul, Nat.sub_self, openB_self, ↓vcD, vcE, ↓vcG, vcF, evs, evP, evB, intsOf, fillC, Value.cells, pt, Value.oneCell', reduceIte, reduceCtorEq, Nat.reduceEqDiff, Nat.reduceAdd, Nat.reduceMul, Nat.reduceLT, Nat.reduceBEq, Nat.reduceLeDiff, Nat.reduceSub]) (fun _ h => by cases h) ⟨rfl, fun _ h => by cases h⟩) fun s J => ?_
 obtain ⟨m, acc⟩ := s
 refine ITri.seq ?_
 refine ITri.seq ?_
 refine ITri.reg pok ?_; simp -implicitDefEqProofs (disch := first | decide | exact of_eq_true (eq_true rfl) | omega | assumption) only [ ↓vcD, vcE, ↓vcG, vcF, evs, evP, evB, intsOf, fillC, Value.cells, pt, Value.oneCell', reduceIte, reduceCtorEq, Nat.reduceEqDiff, Nat.reduceAdd, Nat.reduceMul, Nat.reduceLT, Nat.reduceBEq, Nat.reduceLeDiff, Nat.reduceSub]
 refine ITri.condD (by rfl) (fun h2 => ?_) (fun h2 => ?_)
 ·obtain ⟨J2, h9⟩ := gr_step J (by omega)
  have hm64 : m < 9223372036854775808 := by
   obtain ⟨j1, j2, j3, j4, j5⟩ := J
   simp only at j3 j4
   have : 128 ^ (9 - acc.length) ≤ 128 ^ 8 := Nat.pow_le_pow_right (by decide) (by omega)
   omega
  have j0 : acc.length ≠ 0 := by have := J.2.2.1; simp only at this; omega
  have a2 : dvI .rem (m : Int) 128 = ((m % 128 : Nat) : Int) := rfl
  have a3 : dvI .quo (m : Int) 128 = ((m / 128 : Nat) : Int) := rfl
  have a4 : (128 : Int) + ((m % 128 : Nat) : Int) = ((128 + m % 128 : Nat) : Int) := by omega
  have hT : takeC (rows eB acc) 0 acc.length = some (rows eB acc) := by
   rw [takeC_eq _ _ _ (by rw [rows_len]; omega), List.drop_zero, List.take_of_length_le (by rw [rows_len]; omega)]
  refine ITri.skip ?_; simp only [SeqQ_normal, BlkQ_normal]
  refine ITri.seq ?_
  refine ITri.block ?_
  refine ITri.reg pok ?_; simp -implicitDefEqProofs (disch := first | decide | exact of_eq_true (eq_true rfl) | omega | assumption) only [a2, a4, hT, rows_allT,  ↓vcD, vcE, ↓vcG, vcF, evs, evP, evB, intsOf, fillC, Value.cells, pt, Value.oneCell', reduceIte, reduceCtorEq, Nat.reduceEqDiff, Nat.reduceAdd, Nat.reduceMul, Nat.reduceLT, Nat.reduceBEq, Nat.reduceLeDiff, Nat.reduceSub]
  rw [appK_g rfl rfl rfl (by omega) (by unfold openB; omega) j0]
  simp -implicitDefEqProofs (disch := first | decide | exact of_eq_true (eq_true rfl) | omega | assumption) only [hT, rows_allT,  ↓vcD, vcE, ↓vcG, vcF, evs, evP, evB, intsOf, fillC, Value.cells, pt, Value.oneCell', reduceIte, reduceCtorEq, Nat.reduceEqDiff, Nat.reduceAdd, Nat.reduceMul, Nat.reduceLT, Nat.reduceBEq, Nat.reduceLeDiff, Nat.reduceSub]
  have hs1 : Value.int .u8 (128 + m % 128 : Nat) :: rows eB acc = rows eB (((128 + m % 128 : Nat) : Int) :: acc) := rfl
  rw [hs1]
  have hl1 : 1 + acc.length = (((128 + m % 128 : Nat) : Int) :: acc).length := by rw [List.length_cons]; omega
  rw [hl1]
  refine ITri.reg pok ?_; simp -implicitDefEqProofs (disch := first | decide | exact of_eq_true (eq_true rfl) | omega | assumption) only [a3,  ↓vcD, vcE, ↓vcG, vcF, evs, evP, evB, intsOf, fillC, Value.cells, pt, Value.oneCell', reduceIte, reduceCtorEq, Nat.reduceEqDiff, Nat.reduceAdd, Nat.reduceMul, Nat.reduceLT, Nat.reduceBEq, Nat.reduceLeDiff, Nat.reduceSub]
  refine LoopQ.next (m / 128, ((128 + m % 128 : Nat) : Int) :: acc) J2 (by show m / 128 < m; omega) ?_
  exact (Wk.gc [0, 3] [] (of_decide_eq_true rfl) (of_decide_eq_true rfl) rfl rfl (of_decide_eq_true rfl) rfl rfl (fun _ h => by cases h) rfl (by simp -implicitDefEqProofs (disch := first | decide | exact of_eq_true (eq_true rfl) | omega | assumption) only [objOK, sgL, xiL, objAt, nilO, OM, mvL, mv, mvS, okS, okP, mvL_rows, okML, okM, okML_rows, List.getElem?_cons_zero, Option.getD_some, implies_true, imp_self, ne_eq, and_self, ↓vcD, vcE, ↓vcG, vcF, evs, evP, evB, intsOf, fillC, Value.cells, pt, Value.oneCell', reduceIte, reduceCtorEq, Nat.reduceEqDiff, Nat.reduceAdd, Nat.reduceMul, Nat.reduceLT, Nat.reduceBEq, Nat.reduceLeDiff, Nat.reduceSub]) (by simp -implicitDefEqProofs (disch := first | decide | exact of_eq_true (eq_true rfl) | omega | assumption) only [ valOK, sgL, xiL, mv, mvA, mvL, mvS, okS, okP, okM, okMA, okML, Option.getD_some, implies_true, and_self, Int.natCast_add, Int.cast_ofNat_Int, ↓vcD, vcE, ↓vcG, vcF, evs, evP, evB, intsOf, fillC, Value.cells, pt, Value.oneCell', reduceIte, reduceCtorEq, Nat.reduceEqDiff, Nat.reduceAdd, Nat.reduceMul, Nat.reduceLT, Nat.reduceBEq, Nat.reduceLeDiff, Nat.reduceSub]) (fun _ h => by cases h) ⟨rfl, fun _ h => by cases h⟩)
 refine ITri.exit ?_; try simp -implicitDefEqProofs (disch := first | decide | exact of_eq_true (eq_true rfl) | omega | assumption) only [ ↓vcD, vcE, ↓vcG, vcF, evs, evP, evB, intsOf, fillC, Value.cells, pt, Value.oneCell', reduceIte, reduceCtorEq, Nat.reduceEqDiff, Nat.reduceAdd, Nat.reduceMul, Nat.reduceLT, Nat.reduceBEq, Nat.reduceLeDiff, Nat.reduceSub]
 obtain rfl : m = 0 := by omega
 obtain rfl := gr_end J
 refine ITri.seq ?_
 refine ITri.reg pok ?_; simp -implicitDefEqProofs (disch := first | decide | exact of_eq_true (eq_true rfl) | omega | assumption) only [ ↓vcD, vcE, ↓vcG, vcF, evs, evP, evB, intsOf, fillC, Value.cells, pt, Value.oneCell', reduceIte, reduceCtorEq, Nat.reduceEqDiff, Nat.reduceAdd, Nat.reduceMul, Nat.reduceLT, Nat.reduceBEq, Nat.reduceLeDiff, Nat.reduceSub]
 refine ITri.ret ?_
 exact end_mk (k := 1) (mk := fun s => s) mvI (by decide) (rows_no (f := eB) _) rfl (resF_tmp rfl resF_nil) rfl
theorem groups_f {N : Nat} (hN : N < 9223372036854775808) {h : AH} (hs : h.sees 0 = true) : Fc Tryd.prog 92 [.int .i64 N] h (sO h.next (groups N).length) (h.news [.cells ⟨rows eB (groups N), 1, true⟩]) :=
 Fc.liftN (os := [((groups N).length, rows eB (groups N), 1)]) (mkv := fun ss => ss.headD undef) (groups_c hN) rfl MkV.one (fun o h => by simp at h; subst h; exact rows_no (f := eB) _) hs
section
variable {h : AH} (n : Int)
end
end Go.Proofs.YtgjokhodccacoaaDoor
