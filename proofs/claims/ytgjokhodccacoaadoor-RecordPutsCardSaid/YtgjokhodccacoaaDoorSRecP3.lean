/-
  Chapter 6: the reference's PutNumber, PutSigned; the law RecordPuts, by names.
-/
import Derived.Test.YtgjokhodccacoaaDoorSRecP2
set_option linter.unusedSimpArgs false
set_option linter.unusedVariables false
namespace Go.Proofs.YtgjokhodccacoaaDoor
open Go.RowKit Go.Vm
set_option maxRecDepth 100000
/- boule/boulelaw06.RecordPuts · slots 56 · names 0:n 1:n 3:a 4:e 5:b 6:f 7:x 8:g 9:y 10:h · results [2] -/
def ir13_r0 : IC := .reg [⟨some 2, none, false, .mv (.k (.bool false))⟩] (some [0])
def ir13_r1 : IC := .reg [⟨some 12, none, false, .mv (.t 0)⟩,
  ⟨some 13, none, false, .call (.f 48) [(.t 12)]⟩,
  ⟨some 11, none, false, .mv (.t 13)⟩,
  ⟨some 14, none, false, .ext (.t 11) 0⟩,
  ⟨some 15, none, false, .ext (.t 11) 1⟩,
  ⟨some 3, none, false, .mv (.t 14)⟩,
  ⟨some 4, none, false, .mv (.t 15)⟩] (some [0, 3, 4])
def ir13_r2 : IC := .reg [⟨some 17, none, false, .mv (.t 0)⟩,
  ⟨some 18, none, false, .call (.f 49) [(.t 17)]⟩,
  ⟨some 16, none, false, .mv (.t 18)⟩,
  ⟨some 19, none, false, .ext (.t 16) 0⟩,
  ⟨some 20, none, false, .ext (.t 16) 1⟩,
  ⟨some 5, none, false, .mv (.t 19)⟩,
  ⟨some 6, none, false, .mv (.t 20)⟩] (some [0, 3, 4, 5, 6])
def ir13_r3 : IC := .reg [⟨some 22, none, false, .mv (.t 0)⟩,
  ⟨some 23, none, false, .call (.f 50) [(.t 22)]⟩,
  ⟨some 21, none, false, .mv (.t 23)⟩,
  ⟨some 24, none, false, .ext (.t 21) 0⟩,
  ⟨some 25, none, false, .ext (.t 21) 1⟩,
  ⟨some 7, none, false, .mv (.t 24)⟩,
  ⟨some 8, none, false, .mv (.t 25)⟩] (some [0, 3, 4, 5, 6, 7, 8])
def ir13_r4 : IC := .reg [⟨some 27, none, false, .mv (.t 0)⟩,
  ⟨some 28, none, false, .call (.f 51) [(.t 27)]⟩,
  ⟨some 26, none, false, .mv (.t 28)⟩,
  ⟨some 29, none, false, .ext (.t 26) 0⟩,
  ⟨some 30, none, false, .ext (.t 26) 1⟩,
  ⟨some 9, none, false, .mv (.t 29)⟩,
  ⟨some 10, none, false, .mv (.t 30)⟩] (some [3, 4, 5, 6, 7, 8, 9, 10])
def ir13_r5 : IC := .reg [⟨some 31, none, false, .mv (.t 3)⟩,
  ⟨some 32, none, false, .gen (.convert 22 9 (.tmp 31))⟩,
  ⟨some 33, none, false, .mv (.t 7)⟩,
  ⟨some 34, none, false, .gen (.convert 22 9 (.tmp 33))⟩,
  ⟨some 35, none, false, .gen (.binOp .eql 9 (.tmp 32) (.tmp 34) 9)⟩,
  ⟨some 36, none, false, .mv (.t 35)⟩,
  ⟨some 37, some (36, true), false, .mv (.t 5)⟩,
  ⟨some 38, some (36, true), false, .gen (.convert 22 9 (.tmp 37))⟩,
  ⟨some 39, some (36, true), false, .mv (.t 9)⟩,
  ⟨some 40, some (36, true), false, .gen (.convert 22 9 (.tmp 39))⟩,
  ⟨some 41, some (36, true), false, .gen (.binOp .eql 9 (.tmp 38) (.tmp 40) 9)⟩,
  ⟨some 42, none, false, .pick (.t 36) (.t 41) (.k (.bool false))⟩,
  ⟨some 43, none, false, .mv (.t 42)⟩,
  ⟨some 44, some (43, true), false, .mv (.t 4)⟩,
  ⟨some 45, some (43, true), false, .mv (.t 8)⟩,
  ⟨some 46, some (43, true), false, .cmp .eql (.t 44) (.t 45)⟩,
  ⟨some 47, none, false, .pick (.t 43) (.t 46) (.k (.bool false))⟩,
  ⟨some 48, none, false, .mv (.t 47)⟩,
  ⟨some 49, some (48, true), false, .mv (.t 6)⟩,
  ⟨some 50, some (48, true), false, .mv (.t 10)⟩,
  ⟨some 51, some (48, true), false, .cmp .eql (.t 49) (.t 50)⟩,
  ⟨some 52, none, false, .pick (.t 48) (.t 51) (.k (.bool false))⟩,
  ⟨some 53, none, false, .mv (.t 52)⟩,
  ⟨some 54, some (53, true), false, .call (.f 19) []⟩,
  ⟨some 55, none, false, .pick (.t 53) (.t 54) (.k (.bool false))⟩,
  ⟨some 2, none, false, .mv (.t 55)⟩] (some [2])
def ir13_1 : IC := .seq ir13_r5 .ret
def ir13_2 : IC := .seq ir13_r4 ir13_1
def ir13_3 : IC := .seq ir13_r3 ir13_2
def ir13_4 : IC := .seq ir13_r2 ir13_3
def ir13_5 : IC := .seq ir13_r1 ir13_4
def ir13_6 : IC := .seq ir13_r0 ir13_5
def ir13 : IC := ir13_6
theorem fn13 : FnIs Tryd.prog 13 ir13 56 [.tmp 2] := ⟨Tryd.f13, Tryd.f13.body.getD .skip, Tryd.func13, by kernel_rfl, by kernel_rfl, by kernel_rfl, by kernel_rfl⟩
theorem twice_f (n : Int) (h : -1000000000000000 ≤ n ∧ n ≤ 1000000000000000) {h0 : AH} (hs : h0.sees 0 = true) : Fc Tryd.prog 94 [.int .i64 n] h0 (.int .i64 (zz n : Nat)) h0 := by
  refine Fc.lift0 ?_ rfl rfl hs
  refine Fc.intro0 fn94 (by simp) rfl rfl ?_; simp only [argF]
  refine ITri.seq ?_
  refine ITri.reg pok ?_; simp -implicitDefEqProofs (disch := first | decide | exact of_eq_true (eq_true rfl) | omega | assumption) only [ ↓vcD, vcE, ↓vcG, vcF, evs, evP, evB, intsOf, fillC, Value.cells, pt, Value.oneCell', reduceIte, reduceCtorEq, Nat.reduceEqDiff, Nat.reduceAdd, Nat.reduceMul, Nat.reduceLT, Nat.reduceBEq, Nat.reduceLeDiff, Nat.reduceSub]
  refine ITri.seq ?_
  refine ITri.seq ?_
  by_cases g1 : n < 0
  · have hz : ((zz n : Nat) : Int) = -2 * n - 1 := by unfold zz; rw [if_pos g1]; omega
    refine ITri.reg pok ?_; simp -implicitDefEqProofs (disch := first | decide | exact of_eq_true (eq_true rfl) | omega | assumption) only [g1, decide_true,  ↓vcD, vcE, ↓vcG, vcF, evs, evP, evB, intsOf, fillC, Value.cells, pt, Value.oneCell', reduceIte, reduceCtorEq, Nat.reduceEqDiff, Nat.reduceAdd, Nat.reduceMul, Nat.reduceLT, Nat.reduceBEq, Nat.reduceLeDiff, Nat.reduceSub]
    refine ITri.cond (v := true) rfl (fun _ => ?_) (fun h => by cases h)
    refine ITri.seq ?_
    refine ITri.reg pok ?_; simp -implicitDefEqProofs (disch := first | decide | exact of_eq_true (eq_true rfl) | omega | assumption) only [ ↓vcD, vcE, ↓vcG, vcF, evs, evP, evB, intsOf, fillC, Value.cells, pt, Value.oneCell', reduceIte, reduceCtorEq, Nat.reduceEqDiff, Nat.reduceAdd, Nat.reduceMul, Nat.reduceLT, Nat.reduceBEq, Nat.reduceLeDiff, Nat.reduceSub]
    refine ITri.ret ?_; exact EndR.plain (by simp) (by rfl) (by rw [hz]; rfl) (by rfl)
  have hz : ((zz n : Nat) : Int) = 2 * n := by unfold zz; rw [if_neg g1]; omega
  refine ITri.reg pok ?_; simp -implicitDefEqProofs (disch := first | decide | exact of_eq_true (eq_true rfl) | omega | assumption) only [g1, decide_false,  ↓vcD, vcE, ↓vcG, vcF, evs, evP, evB, intsOf, fillC, Value.cells, pt, Value.oneCell', reduceIte, reduceCtorEq, Nat.reduceEqDiff, Nat.reduceAdd, Nat.reduceMul, Nat.reduceLT, Nat.reduceBEq, Nat.reduceLeDiff, Nat.reduceSub]
  refine ITri.cond (v := false) rfl (fun h => by cases h) (fun _ => ?_); refine ITri.skip ?_; simp only [SeqQ_normal, BlkQ_normal]
  refine ITri.seq ?_
  refine ITri.reg pok ?_; simp -implicitDefEqProofs (disch := first | decide | exact of_eq_true (eq_true rfl) | omega | assumption) only [ ↓vcD, vcE, ↓vcG, vcF, evs, evP, evB, intsOf, fillC, Value.cells, pt, Value.oneCell', reduceIte, reduceCtorEq, Nat.reduceEqDiff, Nat.reduceAdd, Nat.reduceMul, Nat.reduceLT, Nat.reduceBEq, Nat.reduceLeDiff, Nat.reduceSub]
  refine ITri.ret ?_; exact EndR.plain (by simp) (by rfl) (by rw [hz]; rfl) (by rfl)
theorem mvI : MvV fun s => s := ⟨fun _ _ _ => rfl, fun _ _ _ h => h⟩
theorem groups_c {N : Nat} (hN : N < 9223372036854775808) : Fc Tryd.prog 92 [.int .i64 N] (Hp 1 [none]) (sO 1 (groups N).length) ((Hp 1 [none]).news [.cells ⟨rows eB (groups N), 1, true⟩]) := by
  have a0 : dvI .rem (N : Int) 128 = ((N % 128 : Nat) : Int) := rfl
  have a1 : dvI .quo (N : Int) 128 = ((N / 128 : Nat) : Int) := rfl
  refine Fc.introR fn92 (by simp) rfl rfl ?_; simp only [argF]
  refine ITri.seq ?_
  refine ITri.reg pok ?_; simp -implicitDefEqProofs (disch := first | decide | exact of_eq_true (eq_true rfl) | omega | assumption) only [ ↓vcD, vcE, ↓vcG, vcF, evs, evP, evB, intsOf, fillC, Value.cells, pt, Value.oneCell', reduceIte, reduceCtorEq, Nat.reduceEqDiff, Nat.reduceAdd, Nat.reduceMul, Nat.reduceLT, Nat.reduceBEq, Nat.reduceLeDiff, Nat.reduceSub]
  refine ITri.seq ?_
  refine ITri.reg pok ?_; simp -implicitDefEqProofs (disch := first | decide | exact of_eq_true (eq_true rfl) | omega | assumption) only [a0,  ↓vcD, vcE, ↓vcG, vcF, evs, evP, evB, intsOf, fillC, Value.cells, pt, Value.oneCell', reduceIte, reduceCtorEq, Nat.reduceEqDiff, Nat.reduceAdd, Nat.reduceMul, Nat.reduceLT, Nat.reduceBEq, Nat.reduceLeDiff, Nat.reduceSub]
  refine ITri.seq ?_
  refine ITri.seq ?_
  refine ITri.reg pok ?_; simp -implicitDefEqProofs (disch := first | decide | exact of_eq_true (eq_true rfl) | omega | assumption) only [a1,  ↓vcD, vcE, ↓vcG, vcF, evs, evP, evB, intsOf, fillC, Value.cells, pt, Value.oneCell', reduceIte, reduceCtorEq, Nat.reduceEqDiff, Nat.reduceAdd, Nat.reduceMul, Nat.reduceLT, Nat.reduceBEq, Nat.reduceLeDiff, Nat.reduceSub]
  have hok : Vm.okS (.room 1) 1 openB := fun _ => ⟨by omega, by omega⟩
  refine ITri.block ?_ -- 0
  refine ITri.loop (fun s : Nat × List Int => [(0, .int .i64 s.1), (3, sO 1 s.2.length)]) (fun _ => []) (fun s => Hp 1 [none, some (.cells ⟨rows eB s.2, 1, true⟩)]) (GrJ N) (fun s => s.1) (N / 128, [((N % 128 : Nat) : Int)]) (gr_begin hN) (Wk.gc [0, 1] [(1, .room 1)] (of_decide_eq_true rfl) (of_decide_eq_true rfl) rfl rfl (of_decide_eq_true rfl) rfl rfl (by repeat (first | exact xiOK_nil | refine xiOK_cons (by first | trivial | exact roomOK _ (by decide)) ?_)) rfl (by simp -implicitDefEqProofs (disch := first | decide | exact of_eq_true (eq_true rfl) | omega | assumption) only [rows_one, List.length_cons, List.length_nil, hok, objOK, sgL, xiL, objAt, nilO, OM, mvL, mv, mvS, okS, okP, mvL_rows, okML, okM, okML_rows, List.getElem?_cons_zero, Option.getD_some, implies_true, imp_self, ne_eq, and_self, true_or, or_true, Nat.zero_mul, Nat.sub_self, openB_self, ↓vcD, vcE, ↓vcG, vcF, evs, evP, evB, intsOf, fillC, Value.cells, pt, Value.oneCell', reduceIte, reduceCtorEq, Nat.reduceEqDiff, Nat.reduceAdd, Nat.reduceMul, Nat.reduceLT, Nat.reduceBEq, Nat.reduceLeDiff, Nat.reduceSub]) (by simp -implicitDefEqProofs (disch := first | decide | exact of_eq_true (eq_true rfl) | omega | assumption) only [rows_one, List.length_cons, List.length_nil, hok, valOK, sgL, xiL, mv, mvA, mvL, mvS, okS, okP, okM, okMA, okML, Option.getD_some, implies_true, and_self, true_or, or_true, Int.natCast_add, Int.cast_ofNat_Int, Nat.zero_mul, Nat.sub_self, openB_self, ↓vcD, vcE, ↓vcG, vcF, evs, evP, evB, intsOf, fillC, Value.cells, pt, Value.oneCell', reduceIte, reduceCtorEq, Nat.reduceEqDiff, Nat.reduceAdd, Nat.reduceMul, Nat.reduceLT, Nat.reduceBEq, Nat.reduceLeDiff, Nat.reduceSub]) (fun _ h => by cases h) ⟨rfl, fun _ h => by cases h⟩) fun s J => ?_
  obtain ⟨m, acc⟩ := s
  refine ITri.seq ?_
  refine ITri.seq ?_
  refine ITri.reg pok ?_; simp -implicitDefEqProofs (disch := first | decide | exact of_eq_true (eq_true rfl) | omega | assumption) only [ ↓vcD, vcE, ↓vcG, vcF, evs, evP, evB, intsOf, fillC, Value.cells, pt, Value.oneCell', reduceIte, reduceCtorEq, Nat.reduceEqDiff, Nat.reduceAdd, Nat.reduceMul, Nat.reduceLT, Nat.reduceBEq, Nat.reduceLeDiff, Nat.reduceSub]
  refine ITri.condD (by rfl) (fun h2 => ?_) (fun h2 => ?_)
  · obtain ⟨J2, h9⟩ := gr_step J (by omega)
    have hm64 : m < 9223372036854775808 := by
      obtain ⟨j1, j2, j3, j4, j5⟩ := J
      simp only at j3 j4
      have : 128 ^ (9 - acc.length) ≤ 128 ^ 8 := Nat.pow_le_pow_right (by decide) (by omega)
      omega
    have j0 : acc.length ≠ 0 := by have := J.2.2.1; simp only at this; omega
    have a2 : dvI .rem (m : Int) 128 = ((m % 128 : Nat) : Int) := rfl
    have a3 : dvI .quo (m : Int) 128 = ((m / 128 : Nat) : Int) := rfl
    have a4 : (128 : Int) + ((m % 128 : Nat) : Int) = ((128 + m % 128 : Nat) : Int) := by omega
    have hT : takeC (rows eB acc) 0 acc.length = some (rows eB acc) := by
      rw [takeC_eq _ _ _ (by rw [rows_len]; omega), List.drop_zero, List.take_of_length_le (by rw [rows_len]; omega)]
    refine ITri.skip ?_; simp only [SeqQ_normal, BlkQ_normal]
    refine ITri.seq ?_
    refine ITri.block ?_ -- 1
    refine ITri.reg pok ?_; simp -implicitDefEqProofs (disch := first | decide | exact of_eq_true (eq_true rfl) | omega | assumption) only [a2, a4, hT, rows_allT,  ↓vcD, vcE, ↓vcG, vcF, evs, evP, evB, intsOf, fillC, Value.cells, pt, Value.oneCell', reduceIte, reduceCtorEq, Nat.reduceEqDiff, Nat.reduceAdd, Nat.reduceMul, Nat.reduceLT, Nat.reduceBEq, Nat.reduceLeDiff, Nat.reduceSub]
    rw [appK_g rfl rfl rfl (by omega) (by unfold openB; omega) j0]
    simp -implicitDefEqProofs (disch := first | decide | exact of_eq_true (eq_true rfl) | omega | assumption) only [hT, rows_allT,  ↓vcD, vcE, ↓vcG, vcF, evs, evP, evB, intsOf, fillC, Value.cells, pt, Value.oneCell', reduceIte, reduceCtorEq, Nat.reduceEqDiff, Nat.reduceAdd, Nat.reduceMul, Nat.reduceLT, Nat.reduceBEq, Nat.reduceLeDiff, Nat.reduceSub]
    have hs1 : Value.int .u8 (128 + m % 128 : Nat) :: rows eB acc = rows eB (((128 + m % 128 : Nat) : Int) :: acc) := rfl
    rw [hs1]
    have hl1 : 1 + acc.length = (((128 + m % 128 : Nat) : Int) :: acc).length := by rw [List.length_cons]; omega
    rw [hl1]
    refine ITri.reg pok ?_; simp -implicitDefEqProofs (disch := first | decide | exact of_eq_true (eq_true rfl) | omega | assumption) only [a3,  ↓vcD, vcE, ↓vcG, vcF, evs, evP, evB, intsOf, fillC, Value.cells, pt, Value.oneCell', reduceIte, reduceCtorEq, Nat.reduceEqDiff, Nat.reduceAdd, Nat.reduceMul, Nat.reduceLT, Nat.reduceBEq, Nat.reduceLeDiff, Nat.reduceSub]
    refine LoopQ.next (m / 128, ((128 + m % 128 : Nat) : Int) :: acc) J2 (by show m / 128 < m; omega) ?_
    exact (Wk.gc [0, 3] [] (of_decide_eq_true rfl) (of_decide_eq_true rfl) rfl rfl (of_decide_eq_true rfl) rfl rfl (fun _ h => by cases h) rfl (by simp -implicitDefEqProofs (disch := first | decide | exact of_eq_true (eq_true rfl) | omega | assumption) only [objOK, sgL, xiL, objAt, nilO, OM, mvL, mv, mvS, okS, okP, mvL_rows, okML, okM, okML_rows, List.getElem?_cons_zero, Option.getD_some, implies_true, imp_self, ne_eq, and_self, ↓vcD, vcE, ↓vcG, vcF, evs, evP, evB, intsOf, fillC, Value.cells, pt, Value.oneCell', reduceIte, reduceCtorEq, Nat.reduceEqDiff, Nat.reduceAdd, Nat.reduceMul, Nat.reduceLT, Nat.reduceBEq, Nat.reduceLeDiff, Nat.reduceSub]) (by simp -implicitDefEqProofs (disch := first | decide | exact of_eq_true (eq_true rfl) | omega | assumption) only [ valOK, sgL, xiL, mv, mvA, mvL, mvS, okS, okP, okM, okMA, okML, Option.getD_some, implies_true, and_self, Int.natCast_add, Int.cast_ofNat_Int, ↓vcD, vcE, ↓vcG, vcF, evs, evP, evB, intsOf, fillC, Value.cells, pt, Value.oneCell', reduceIte, reduceCtorEq, Nat.reduceEqDiff, Nat.reduceAdd, Nat.reduceMul, Nat.reduceLT, Nat.reduceBEq, Nat.reduceLeDiff, Nat.reduceSub]) (fun _ h => by cases h) ⟨rfl, fun _ h => by cases h⟩)
  refine ITri.exit ?_; try simp -implicitDefEqProofs (disch := first | decide | exact of_eq_true (eq_true rfl) | omega | assumption) only [ ↓vcD, vcE, ↓vcG, vcF, evs, evP, evB, intsOf, fillC, Value.cells, pt, Value.oneCell', reduceIte, reduceCtorEq, Nat.reduceEqDiff, Nat.reduceAdd, Nat.reduceMul, Nat.reduceLT, Nat.reduceBEq, Nat.reduceLeDiff, Nat.reduceSub]
  obtain rfl : m = 0 := by omega
  obtain rfl := gr_end J
  refine ITri.seq ?_
  refine ITri.reg pok ?_; simp -implicitDefEqProofs (disch := first | decide | exact of_eq_true (eq_true rfl) | omega | assumption) only [ ↓vcD, vcE, ↓vcG, vcF, evs, evP, evB, intsOf, fillC, Value.cells, pt, Value.oneCell', reduceIte, reduceCtorEq, Nat.reduceEqDiff, Nat.reduceAdd, Nat.reduceMul, Nat.reduceLT, Nat.reduceBEq, Nat.reduceLeDiff, Nat.reduceSub]
  refine ITri.ret ?_
  exact end_mk (k := 1) (mk := fun s => s) mvI (by decide) (rows_no (f := eB) _) rfl (resF_tmp rfl resF_nil) rfl
theorem groups_f {N : Nat} (hN : N < 9223372036854775808) {h : AH} (hs : h.sees 0 = true) : Fc Tryd.prog 92 [.int .i64 N] h (sO h.next (groups N).length) (h.news [.cells ⟨rows eB (groups N), 1, true⟩]) :=
  Fc.liftN (os := [((groups N).length, rows eB (groups N), 1)]) (mkv := fun ss => ss.headD undef) (groups_c hN) rfl MkV.one (fun o h => by simp at h; subst h; exact rows_no (f := eB) _) hs
theorem rputn_c (n : Int) : Fc Tryd.prog 50 [.int .i64 n] (Hp 1 [none]) (.tuple #[sO 1 (okG (okP n) (groups n.toNat)).length, .int .i64 (okE (okP n))]) ((Hp 1 [none]).news [.cells ⟨rows eB (okG (okP n) (groups n.toNat)), 1, true⟩]) := by
  refine Fc.introR fn50 (by simp) rfl rfl ?_; simp only [argF]
  refine ITri.seq ?_
  refine ITri.reg pok ?_; simp -implicitDefEqProofs (disch := first | decide | exact of_eq_true (eq_true rfl) | omega | assumption) only [ ↓vcD, vcE, ↓vcG, vcF, evs, evP, evB, intsOf, fillC, Value.cells, pt, Value.oneCell', reduceIte, reduceCtorEq, Nat.reduceEqDiff, Nat.reduceAdd, Nat.reduceMul, Nat.reduceLT, Nat.reduceBEq, Nat.reduceLeDiff, Nat.reduceSub] -- r0
  refine ITri.seq ?_
  refine ITri.seq ?_
  by_cases g1 : n < 0
  · have e : okP n = false := by unfold okP; rw [decide_eq_false (by omega)]
    rw [e]
    refine ITri.reg pok ?_; simp -implicitDefEqProofs (disch := first | decide | exact of_eq_true (eq_true rfl) | omega | assumption) only [g1, decide_true,  ↓vcD, vcE, ↓vcG, vcF, evs, evP, evB, intsOf, fillC, Value.cells, pt, Value.oneCell', reduceIte, reduceCtorEq, Nat.reduceEqDiff, Nat.reduceAdd, Nat.reduceMul, Nat.reduceLT, Nat.reduceBEq, Nat.reduceLeDiff, Nat.reduceSub] -- r1
    refine ITri.cond (v := true) rfl (fun _ => ?_) (fun h => by cases h)
    refine ITri.seq ?_
    refine ITri.reg pok ?_; simp -implicitDefEqProofs (disch := first | decide | exact of_eq_true (eq_true rfl) | omega | assumption) only [ ↓vcD, vcE, ↓vcG, vcF, evs, evP, evB, intsOf, fillC, Value.cells, pt, Value.oneCell', reduceIte, reduceCtorEq, Nat.reduceEqDiff, Nat.reduceAdd, Nat.reduceMul, Nat.reduceLT, Nat.reduceBEq, Nat.reduceLeDiff, Nat.reduceSub]
    refine ITri.ret ?_
    exact end_nil (mk := fun s => .tuple #[s, .int .i64 3]) (mvP 3) (resF_tmp rfl (resF_tmp rfl resF_nil)) rfl
  by_cases g2 : 1000000000000000 < n
  · have e : okP n = false := by unfold okP; rw [decide_eq_false (by omega)]
    rw [e]
    refine ITri.reg pok ?_; simp -implicitDefEqProofs (disch := first | decide | exact of_eq_true (eq_true rfl) | omega | assumption) only [g1, g2, decide_true, decide_false,  ↓vcD, vcE, ↓vcG, vcF, evs, evP, evB, intsOf, fillC, Value.cells, pt, Value.oneCell', reduceIte, reduceCtorEq, Nat.reduceEqDiff, Nat.reduceAdd, Nat.reduceMul, Nat.reduceLT, Nat.reduceBEq, Nat.reduceLeDiff, Nat.reduceSub] -- r1
    refine ITri.cond (v := true) rfl (fun _ => ?_) (fun h => by cases h)
    refine ITri.seq ?_
    refine ITri.reg pok ?_; simp -implicitDefEqProofs (disch := first | decide | exact of_eq_true (eq_true rfl) | omega | assumption) only [ ↓vcD, vcE, ↓vcG, vcF, evs, evP, evB, intsOf, fillC, Value.cells, pt, Value.oneCell', reduceIte, reduceCtorEq, Nat.reduceEqDiff, Nat.reduceAdd, Nat.reduceMul, Nat.reduceLT, Nat.reduceBEq, Nat.reduceLeDiff, Nat.reduceSub]
    refine ITri.ret ?_
    exact end_nil (mk := fun s => .tuple #[s, .int .i64 3]) (mvP 3) (resF_tmp rfl (resF_tmp rfl resF_nil)) rfl
  have e : okP n = true := by unfold okP; rw [decide_eq_true (by omega)]
  rw [e]
  obtain ⟨N, rfl⟩ := Int.eq_ofNat_of_zero_le (show 0 ≤ n by omega)
  rw [Int.toNat_natCast]
  refine ITri.reg pok ?_; simp -implicitDefEqProofs (disch := first | decide | exact of_eq_true (eq_true rfl) | omega | assumption) only [g1, g2, decide_false,  ↓vcD, vcE, ↓vcG, vcF, evs, evP, evB, intsOf, fillC, Value.cells, pt, Value.oneCell', reduceIte, reduceCtorEq, Nat.reduceEqDiff, Nat.reduceAdd, Nat.reduceMul, Nat.reduceLT, Nat.reduceBEq, Nat.reduceLeDiff, Nat.reduceSub] -- r1
  refine ITri.cond (v := false) rfl (fun h => by cases h) (fun _ => ?_); refine ITri.skip ?_; simp only [SeqQ_normal, BlkQ_normal]
  refine ITri.seq ?_
  refine ITri.reg pok ?_; simp -implicitDefEqProofs (disch := first | decide | exact of_eq_true (eq_true rfl) | omega | assumption) only [ ↓vcD, vcE, ↓vcG, vcF, evs, evP, evB, intsOf, fillC, Value.cells, pt, Value.oneCell', reduceIte, reduceCtorEq, Nat.reduceEqDiff, Nat.reduceAdd, Nat.reduceMul, Nat.reduceLT, Nat.reduceBEq, Nat.reduceLeDiff, Nat.reduceSub] -- r3
  refine ⟨_, _, groups_f (by omega) (sees0 rfl (of_decide_eq_true rfl)), ?_⟩
  simp -implicitDefEqProofs (disch := first | decide | exact of_eq_true (eq_true rfl) | omega | assumption) only [news_c, news_n,  ↓vcD, vcE, ↓vcG, vcF, evs, evP, evB, intsOf, fillC, Value.cells, pt, Value.oneCell', reduceIte, reduceCtorEq, Nat.reduceEqDiff, Nat.reduceAdd, Nat.reduceMul, Nat.reduceLT, Nat.reduceBEq, Nat.reduceLeDiff, Nat.reduceSub]
  refine ITri.ret ?_
  exact end_mk (k := 1) (mk := fun s => .tuple #[s, .int .i64 0]) (mvP 0) (by decide) (rows_no (f := eB) _) rfl (resF_tmp rfl (resF_tmp rfl resF_nil)) rfl
theorem rputs_c (n : Int) : Fc Tryd.prog 51 [.int .i64 n] (Hp 1 [none]) (.tuple #[sO 1 (okG (okZ n) (groups (zz n))).length, .int .i64 (okE (okZ n))]) ((Hp 1 [none]).news [.cells ⟨rows eB (okG (okZ n) (groups (zz n))), 1, true⟩]) := by
  refine Fc.introR fn51 (by simp) rfl rfl ?_; simp only [argF]
  refine ITri.seq ?_
  refine ITri.reg pok ?_; simp -implicitDefEqProofs (disch := first | decide | exact of_eq_true (eq_true rfl) | omega | assumption) only [ ↓vcD, vcE, ↓vcG, vcF, evs, evP, evB, intsOf, fillC, Value.cells, pt, Value.oneCell', reduceIte, reduceCtorEq, Nat.reduceEqDiff, Nat.reduceAdd, Nat.reduceMul, Nat.reduceLT, Nat.reduceBEq, Nat.reduceLeDiff, Nat.reduceSub] -- r0
  refine ITri.seq ?_
  refine ITri.seq ?_
  by_cases g1 : n < -1000000000000000
  · have e : okZ n = false := by unfold okZ; rw [decide_eq_false (by omega)]
    rw [e]
    refine ITri.reg pok ?_; simp -implicitDefEqProofs (disch := first | decide | exact of_eq_true (eq_true rfl) | omega | assumption) only [g1, decide_true,  ↓vcD, vcE, ↓vcG, vcF, evs, evP, evB, intsOf, fillC, Value.cells, pt, Value.oneCell', reduceIte, reduceCtorEq, Nat.reduceEqDiff, Nat.reduceAdd, Nat.reduceMul, Nat.reduceLT, Nat.reduceBEq, Nat.reduceLeDiff, Nat.reduceSub] -- r1
    refine ITri.cond (v := true) rfl (fun _ => ?_) (fun h => by cases h)
    refine ITri.seq ?_
    refine ITri.reg pok ?_; simp -implicitDefEqProofs (disch := first | decide | exact of_eq_true (eq_true rfl) | omega | assumption) only [ ↓vcD, vcE, ↓vcG, vcF, evs, evP, evB, intsOf, fillC, Value.cells, pt, Value.oneCell', reduceIte, reduceCtorEq, Nat.reduceEqDiff, Nat.reduceAdd, Nat.reduceMul, Nat.reduceLT, Nat.reduceBEq, Nat.reduceLeDiff, Nat.reduceSub]
    refine ITri.ret ?_
    exact end_nil (mk := fun s => .tuple #[s, .int .i64 3]) (mvP 3) (resF_tmp rfl (resF_tmp rfl resF_nil)) rfl
  by_cases g2 : 1000000000000000 < n
  · have e : okZ n = false := by unfold okZ; rw [decide_eq_false (by omega)]
    rw [e]
    refine ITri.reg pok ?_; simp -implicitDefEqProofs (disch := first | decide | exact of_eq_true (eq_true rfl) | omega | assumption) only [g1, g2, decide_true, decide_false,  ↓vcD, vcE, ↓vcG, vcF, evs, evP, evB, intsOf, fillC, Value.cells, pt, Value.oneCell', reduceIte, reduceCtorEq, Nat.reduceEqDiff, Nat.reduceAdd, Nat.reduceMul, Nat.reduceLT, Nat.reduceBEq, Nat.reduceLeDiff, Nat.reduceSub] -- r1
    refine ITri.cond (v := true) rfl (fun _ => ?_) (fun h => by cases h)
    refine ITri.seq ?_
    refine ITri.reg pok ?_; simp -implicitDefEqProofs (disch := first | decide | exact of_eq_true (eq_true rfl) | omega | assumption) only [ ↓vcD, vcE, ↓vcG, vcF, evs, evP, evB, intsOf, fillC, Value.cells, pt, Value.oneCell', reduceIte, reduceCtorEq, Nat.reduceEqDiff, Nat.reduceAdd, Nat.reduceMul, Nat.reduceLT, Nat.reduceBEq, Nat.reduceLeDiff, Nat.reduceSub]
    refine ITri.ret ?_
    exact end_nil (mk := fun s => .tuple #[s, .int .i64 3]) (mvP 3) (resF_tmp rfl (resF_tmp rfl resF_nil)) rfl
  have e : okZ n = true := by unfold okZ; rw [decide_eq_true (by omega)]
  rw [e]
  have hz : zz n < 9223372036854775808 := by unfold zz; split <;> omega
  refine ITri.reg pok ?_; simp -implicitDefEqProofs (disch := first | decide | exact of_eq_true (eq_true rfl) | omega | assumption) only [g1, g2, decide_false,  ↓vcD, vcE, ↓vcG, vcF, evs, evP, evB, intsOf, fillC, Value.cells, pt, Value.oneCell', reduceIte, reduceCtorEq, Nat.reduceEqDiff, Nat.reduceAdd, Nat.reduceMul, Nat.reduceLT, Nat.reduceBEq, Nat.reduceLeDiff, Nat.reduceSub] -- r1
  refine ITri.cond (v := false) rfl (fun h => by cases h) (fun _ => ?_); refine ITri.skip ?_; simp only [SeqQ_normal, BlkQ_normal]
  refine ITri.seq ?_
  refine ITri.reg pok ?_; simp -implicitDefEqProofs (disch := first | decide | exact of_eq_true (eq_true rfl) | omega | assumption) only [ ↓vcD, vcE, ↓vcG, vcF, evs, evP, evB, intsOf, fillC, Value.cells, pt, Value.oneCell', reduceIte, reduceCtorEq, Nat.reduceEqDiff, Nat.reduceAdd, Nat.reduceMul, Nat.reduceLT, Nat.reduceBEq, Nat.reduceLeDiff, Nat.reduceSub] -- r3
  refine ⟨_, _, twice_f n (by omega) (sees0 rfl (of_decide_eq_true rfl)), ?_⟩
  try simp -implicitDefEqProofs (disch := first | decide | exact of_eq_true (eq_true rfl) | omega | assumption) only [ ↓vcD, vcE, ↓vcG, vcF, evs, evP, evB, intsOf, fillC, Value.cells, pt, Value.oneCell', reduceIte, reduceCtorEq, Nat.reduceEqDiff, Nat.reduceAdd, Nat.reduceMul, Nat.reduceLT, Nat.reduceBEq, Nat.reduceLeDiff, Nat.reduceSub]
  refine ⟨_, _, groups_f hz (sees0 rfl (of_decide_eq_true rfl)), ?_⟩
  simp -implicitDefEqProofs (disch := first | decide | exact of_eq_true (eq_true rfl) | omega | assumption) only [news_c, news_n,  ↓vcD, vcE, ↓vcG, vcF, evs, evP, evB, intsOf, fillC, Value.cells, pt, Value.oneCell', reduceIte, reduceCtorEq, Nat.reduceEqDiff, Nat.reduceAdd, Nat.reduceMul, Nat.reduceLT, Nat.reduceBEq, Nat.reduceLeDiff, Nat.reduceSub]
  refine ITri.ret ?_
  exact end_mk (k := 1) (mk := fun s => .tuple #[s, .int .i64 0]) (mvP 0) (by decide) (rows_no (f := eB) _) rfl (resF_tmp rfl (resF_tmp rfl resF_nil)) rfl
section
variable {h : AH} (n : Int)
theorem putn_f (hs : h.sees 0 = true) : Fc Tryd.prog 48 [.int .i64 n] h (.tuple #[sO h.next (okG (okP n) (groups n.toNat)).length, .int .i64 (okE (okP n))]) (h.news [.cells ⟨rows eB (okC (okP n) (groups n.toNat)), 1, true⟩]) :=
  Fc.liftN (os := [((okG (okP n) (groups n.toNat)).length, rows eB (okC (okP n) (groups n.toNat)), 1)]) (mkv := fun ss => .tuple ⟨ss ++ [.int .i64 (okE (okP n))]⟩) (putn_c n) rfl (MkV.tup (MkL.app rfl)) (fun o h => by simp at h; subst h; exact rows_no (f := eB) _) hs
theorem puts_f (hs : h.sees 0 = true) : Fc Tryd.prog 49 [.int .i64 n] h (.tuple #[sO h.next (okG (okZ n) (groups (zz n))).length, .int .i64 (okE (okZ n))]) (h.news [.cells ⟨rows eB (okC (okZ n) (groups (zz n))), 1, true⟩]) :=
  Fc.liftN (os := [((okG (okZ n) (groups (zz n))).length, rows eB (okC (okZ n) (groups (zz n))), 1)]) (mkv := fun ss => .tuple ⟨ss ++ [.int .i64 (okE (okZ n))]⟩) (puts_c n) rfl (MkV.tup (MkL.app rfl)) (fun o h => by simp at h; subst h; exact rows_no (f := eB) _) hs
theorem rputn_f (hs : h.sees 0 = true) : Fc Tryd.prog 50 [.int .i64 n] h (.tuple #[sO h.next (okG (okP n) (groups n.toNat)).length, .int .i64 (okE (okP n))]) (h.news [.cells ⟨rows eB (okG (okP n) (groups n.toNat)), 1, true⟩]) :=
  Fc.liftN (os := [((okG (okP n) (groups n.toNat)).length, rows eB (okG (okP n) (groups n.toNat)), 1)]) (mkv := fun ss => .tuple ⟨ss ++ [.int .i64 (okE (okP n))]⟩) (rputn_c n) rfl (MkV.tup (MkL.app rfl)) (fun o h => by simp at h; subst h; exact rows_no (f := eB) _) hs
theorem rputs_f (hs : h.sees 0 = true) : Fc Tryd.prog 51 [.int .i64 n] h (.tuple #[sO h.next (okG (okZ n) (groups (zz n))).length, .int .i64 (okE (okZ n))]) (h.news [.cells ⟨rows eB (okG (okZ n) (groups (zz n))), 1, true⟩]) :=
  Fc.liftN (os := [((okG (okZ n) (groups (zz n))).length, rows eB (okG (okZ n) (groups (zz n))), 1)]) (mkv := fun ss => .tuple ⟨ss ++ [.int .i64 (okE (okZ n))]⟩) (rputs_c n) rfl (MkV.tup (MkL.app rfl)) (fun o h => by simp at h; subst h; exact rows_no (f := eB) _) hs
end
theorem ok_len (b : Bool) (gs : List Int) : (okG b gs).length ≤ (okC b gs).length := by
  unfold okG okC
  cases b
  · simp
  · simp
theorem ok_take (b : Bool) (gs : List Int) : (okC b gs).take (okG b gs).length = okG b gs := by
  unfold okG okC
  cases b
  · simp
  · simp
theorem putlaw_c (n : Int) : Fc Tryd.prog 13 [.int .i64 n] (Hp 1 [none]) (.bool true) (Hp 1 [none]) := by
  refine Fc.intro0 fn13 (by simp) rfl rfl ?_; simp only [argF]
  refine ITri.seq ?_
  refine ITri.reg pok ?_; simp -implicitDefEqProofs (disch := first | decide | exact of_eq_true (eq_true rfl) | omega | assumption) only [ ↓vcD, vcE, ↓vcG, vcF, evs, evP, evB, intsOf, fillC, Value.cells, pt, Value.oneCell', reduceIte, reduceCtorEq, Nat.reduceEqDiff, Nat.reduceAdd, Nat.reduceMul, Nat.reduceLT, Nat.reduceBEq, Nat.reduceLeDiff, Nat.reduceSub] -- r0 law.go:108
  refine ITri.seq ?_
  refine ITri.reg pok ?_; simp -implicitDefEqProofs (disch := first | decide | exact of_eq_true (eq_true rfl) | omega | assumption) only [ ↓vcD, vcE, ↓vcG, vcF, evs, evP, evB, intsOf, fillC, Value.cells, pt, Value.oneCell', reduceIte, reduceCtorEq, Nat.reduceEqDiff, Nat.reduceAdd, Nat.reduceMul, Nat.reduceLT, Nat.reduceBEq, Nat.reduceLeDiff, Nat.reduceSub] -- r1 law.go:109 CALLS .call F48 [%12]
  refine ⟨_, _, putn_f n (sees0 rfl (of_decide_eq_true rfl)), ?_⟩
  simp -implicitDefEqProofs (disch := first | decide | exact of_eq_true (eq_true rfl) | omega | assumption) only [news_c, news_n,  ↓vcD, vcE, ↓vcG, vcF, evs, evP, evB, intsOf, fillC, Value.cells, pt, Value.oneCell', reduceIte, reduceCtorEq, Nat.reduceEqDiff, Nat.reduceAdd, Nat.reduceMul, Nat.reduceLT, Nat.reduceBEq, Nat.reduceLeDiff, Nat.reduceSub]
  refine ITri.seq ?_
  refine ITri.reg pok ?_; simp -implicitDefEqProofs (disch := first | decide | exact of_eq_true (eq_true rfl) | omega | assumption) only [ ↓vcD, vcE, ↓vcG, vcF, evs, evP, evB, intsOf, fillC, Value.cells, pt, Value.oneCell', reduceIte, reduceCtorEq, Nat.reduceEqDiff, Nat.reduceAdd, Nat.reduceMul, Nat.reduceLT, Nat.reduceBEq, Nat.reduceLeDiff, Nat.reduceSub] -- r2 law.go:110 CALLS .call F49 [%17]
  refine ⟨_, _, puts_f n (sees0 rfl (of_decide_eq_true rfl)), ?_⟩
  simp -implicitDefEqProofs (disch := first | decide | exact of_eq_true (eq_true rfl) | omega | assumption) only [news_c, news_n,  ↓vcD, vcE, ↓vcG, vcF, evs, evP, evB, intsOf, fillC, Value.cells, pt, Value.oneCell', reduceIte, reduceCtorEq, Nat.reduceEqDiff, Nat.reduceAdd, Nat.reduceMul, Nat.reduceLT, Nat.reduceBEq, Nat.reduceLeDiff, Nat.reduceSub]
  refine ITri.seq ?_
  refine ITri.reg pok ?_; simp -implicitDefEqProofs (disch := first | decide | exact of_eq_true (eq_true rfl) | omega | assumption) only [ ↓vcD, vcE, ↓vcG, vcF, evs, evP, evB, intsOf, fillC, Value.cells, pt, Value.oneCell', reduceIte, reduceCtorEq, Nat.reduceEqDiff, Nat.reduceAdd, Nat.reduceMul, Nat.reduceLT, Nat.reduceBEq, Nat.reduceLeDiff, Nat.reduceSub] -- r3 law.go:111 CALLS .call F50 [%22]
  refine ⟨_, _, rputn_f n (sees0 rfl (of_decide_eq_true rfl)), ?_⟩
  simp -implicitDefEqProofs (disch := first | decide | exact of_eq_true (eq_true rfl) | omega | assumption) only [news_c, news_n,  ↓vcD, vcE, ↓vcG, vcF, evs, evP, evB, intsOf, fillC, Value.cells, pt, Value.oneCell', reduceIte, reduceCtorEq, Nat.reduceEqDiff, Nat.reduceAdd, Nat.reduceMul, Nat.reduceLT, Nat.reduceBEq, Nat.reduceLeDiff, Nat.reduceSub]
  refine ITri.seq ?_
  refine ITri.reg pok ?_; simp -implicitDefEqProofs (disch := first | decide | exact of_eq_true (eq_true rfl) | omega | assumption) only [ ↓vcD, vcE, ↓vcG, vcF, evs, evP, evB, intsOf, fillC, Value.cells, pt, Value.oneCell', reduceIte, reduceCtorEq, Nat.reduceEqDiff, Nat.reduceAdd, Nat.reduceMul, Nat.reduceLT, Nat.reduceBEq, Nat.reduceLeDiff, Nat.reduceSub] -- r4 law.go:112 CALLS .call F51 [%27]
  refine ⟨_, _, rputs_f n (sees0 rfl (of_decide_eq_true rfl)), ?_⟩
  simp -implicitDefEqProofs (disch := first | decide | exact of_eq_true (eq_true rfl) | omega | assumption) only [news_c, news_n,  ↓vcD, vcE, ↓vcG, vcF, evs, evP, evB, intsOf, fillC, Value.cells, pt, Value.oneCell', reduceIte, reduceCtorEq, Nat.reduceEqDiff, Nat.reduceAdd, Nat.reduceMul, Nat.reduceLT, Nat.reduceBEq, Nat.reduceLeDiff, Nat.reduceSub]
  refine ITri.seq ?_
  refine ITri.reg pok ?_; simp -implicitDefEqProofs (disch := first | decide | exact of_eq_true (eq_true rfl) | omega | assumption) only [ ↓vcD, vcE, ↓vcG, vcF, evs, evP, evB, intsOf, fillC, Value.cells, pt, Value.oneCell', reduceIte, reduceCtorEq, Nat.reduceEqDiff, Nat.reduceAdd, Nat.reduceMul, Nat.reduceLT, Nat.reduceBEq, Nat.reduceLeDiff, Nat.reduceSub] -- r5 law.go:113 CALLS .call F19 [] GUARDS [36, 43, 48, 53] live [2]
  refine gen_strT (by decide) u_slB u_uint8 u_str rfl (ok_len _ _) (ok_take _ _) (get_hq rfl rfl) ?_
  try simp -implicitDefEqProofs (disch := first | decide | exact of_eq_true (eq_true rfl) | omega | assumption) only [ ↓vcD, vcE, ↓vcG, vcF, evs, evP, evB, intsOf, fillC, Value.cells, pt, Value.oneCell', reduceIte, reduceCtorEq, Nat.reduceEqDiff, Nat.reduceAdd, Nat.reduceMul, Nat.reduceLT, Nat.reduceBEq, Nat.reduceLeDiff, Nat.reduceSub]
  refine gen_str (by decide) u_slB u_uint8 u_str rfl rfl (get_hq rfl rfl) ?_
  try simp -implicitDefEqProofs (disch := first | decide | exact of_eq_true (eq_true rfl) | omega | assumption) only [ ↓vcD, vcE, ↓vcG, vcF, evs, evP, evB, intsOf, fillC, Value.cells, pt, Value.oneCell', reduceIte, reduceCtorEq, Nat.reduceEqDiff, Nat.reduceAdd, Nat.reduceMul, Nat.reduceLT, Nat.reduceBEq, Nat.reduceLeDiff, Nat.reduceSub]
  refine gen_seq rfl rfl ?_
  try simp -implicitDefEqProofs (disch := first | decide | exact of_eq_true (eq_true rfl) | omega | assumption) only [ ↓vcD, vcE, ↓vcG, vcF, evs, evP, evB, intsOf, fillC, Value.cells, pt, Value.oneCell', reduceIte, reduceCtorEq, Nat.reduceEqDiff, Nat.reduceAdd, Nat.reduceMul, Nat.reduceLT, Nat.reduceBEq, Nat.reduceLeDiff, Nat.reduceSub]
  refine gen_strT (by decide) u_slB u_uint8 u_str rfl (ok_len _ _) (ok_take _ _) (get_hq rfl rfl) ?_
  try simp -implicitDefEqProofs (disch := first | decide | exact of_eq_true (eq_true rfl) | omega | assumption) only [ ↓vcD, vcE, ↓vcG, vcF, evs, evP, evB, intsOf, fillC, Value.cells, pt, Value.oneCell', reduceIte, reduceCtorEq, Nat.reduceEqDiff, Nat.reduceAdd, Nat.reduceMul, Nat.reduceLT, Nat.reduceBEq, Nat.reduceLeDiff, Nat.reduceSub]
  refine gen_str (by decide) u_slB u_uint8 u_str rfl rfl (get_hq rfl rfl) ?_
  try simp -implicitDefEqProofs (disch := first | decide | exact of_eq_true (eq_true rfl) | omega | assumption) only [ ↓vcD, vcE, ↓vcG, vcF, evs, evP, evB, intsOf, fillC, Value.cells, pt, Value.oneCell', reduceIte, reduceCtorEq, Nat.reduceEqDiff, Nat.reduceAdd, Nat.reduceMul, Nat.reduceLT, Nat.reduceBEq, Nat.reduceLeDiff, Nat.reduceSub]
  refine gen_seq rfl rfl ?_
  simp -implicitDefEqProofs (disch := first | decide | exact of_eq_true (eq_true rfl) | omega | assumption) only [decide_true,  ↓vcD, vcE, ↓vcG, vcF, evs, evP, evB, intsOf, fillC, Value.cells, pt, Value.oneCell', reduceIte, reduceCtorEq, Nat.reduceEqDiff, Nat.reduceAdd, Nat.reduceMul, Nat.reduceLT, Nat.reduceBEq, Nat.reduceLeDiff, Nat.reduceSub]
  refine ⟨_, _, knownT, ?_⟩
  try simp -implicitDefEqProofs (disch := first | decide | exact of_eq_true (eq_true rfl) | omega | assumption) only [ ↓vcD, vcE, ↓vcG, vcF, evs, evP, evB, intsOf, fillC, Value.cells, pt, Value.oneCell', reduceIte, reduceCtorEq, Nat.reduceEqDiff, Nat.reduceAdd, Nat.reduceMul, Nat.reduceLT, Nat.reduceBEq, Nat.reduceLeDiff, Nat.reduceSub]
  refine ITri.ret ?_; exact EndR.plain (by simp) (by rfl) (by rfl) (by rfl)
end Go.Proofs.YtgjokhodccacoaaDoor
