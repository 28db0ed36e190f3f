/-
  Chapters 8 to 10 at the top: slice.Predict, by names: its beginning.
-/
import Derived.Test.YtjfgbdmdnejhdaaFitS
set_option linter.unusedSimpArgs false
set_option linter.unusedVariables false
namespace Go.Proofs.Ytjfgbdmdnejhdaa
open Go.RowKit Go.Vm
set_option maxRecDepth 100000
section
variable {c : Wb} {len : Int}
set_option maxHeartbeats 4000000 in
theorem predict_g {tS tK nS nK : List Int} {tb nb la be la2 be2 : Int} {n : Nat} (V : Vd c len) (h0 : ckE c len = 0) (hn : usF c len = n)
    (T1 : ∀ {h : AH}, h.sees 0 = true → Fc Try.prog 17 [sawV c len] h (.tuple #[ptV h.next (h.next + 1) tS.length n (min c.st len) tb, .int .i64 la, .int .i64 be]) (h.news [.cells ⟨rows eI tS, 1, true⟩, .cells ⟨rows eI tK, 1, true⟩]))
    (T2 : ∀ {h : AH}, h.sees 0 = true → Fc Try.prog 18 [sawV c len] h (.tuple #[ptV h.next (h.next + 1) nS.length n (min c.st len) nb, .int .i64 la2, .int .i64 be2]) (h.news [.cells ⟨rows eI nS, 1, true⟩, .cells ⟨rows eI nK, 1, true⟩]))
    (k1 : ∀ x ∈ tK, 0 ≤ x ∧ x ≤ 600000000) (k2 : ∀ x ∈ nK, 0 ≤ x ∧ x ≤ 600000000) (l1 : tK.length = n) (l2 : nK.length = n) (l3 : tS.length = n - 1) (l4 : nS.length = n - 1) (hb : n ≤ 2000) (b1 : 0 ≤ tb ∧ tb ≤ 600000000) (b2 : 0 ≤ nb ∧ nb ≤ 600000000) (b3 : 0 ≤ min c.st len ∧ min c.st len ≤ 600000000) :
    ∃ a1 a2 a3 a4 a5 a6 a7, Fc Try.prog 5 [wirV c, webV c, .int .i64 len] (Hp 1 [none]) (.tuple #[.agg #[.slice (some ⟨1, 0, none⟩) (n - 1) openB, .int .i64 a1, .int .i64 a2, .int .i64 a3, .int .i64 a4, .int .i64 a5, .int .i64 a6, .int .u8 a7], .int .i64 0]) ((Hp 1 [none]).news [.cells ⟨pairs tS nS (n - 1), 2, true⟩]) := by
  obtain ⟨a7, ha7⟩ : ∃ a7 : Int, a7 = (if n = 0 ∨ la2 ≥ c.le then 3 else if la < c.le then 1 else 2) := ⟨_, rfl⟩
  refine ⟨sumI nK, sumI tK, min c.st len + tb, min c.st len + nb, be2, be, a7, ?_⟩
  generalize hmi : min c.st len = top at *
  refine Fc.introR fn5 (by simp) rfl rfl ?_; simp only [argF]
  refine ITri.seq ?_
  refine ITri.reg pok ?_; simp -implicitDefEqProofs (disch := first | decide | exact of_eq_true (eq_true rfl) | omega | assumption) only [ ↓vcD, vcE, ↓vcG, vcF, evs, evP, evB, intsOf, fillC, Value.cells, pt, Value.oneCell', reduceIte, reduceCtorEq, Nat.reduceEqDiff, Nat.reduceAdd, Nat.reduceMul, Nat.reduceLT, Nat.reduceBEq, Nat.reduceLeDiff, Nat.reduceSub] -- r0
  refine ITri.seq ?_
  refine ITri.seq ?_
  refine ITri.reg pok ?_; simp -implicitDefEqProofs (disch := first | decide | exact of_eq_true (eq_true rfl) | omega | assumption) only [ ↓vcD, vcE, ↓vcG, vcF, evs, evP, evB, intsOf, fillC, Value.cells, pt, Value.oneCell', reduceIte, reduceCtorEq, Nat.reduceEqDiff, Nat.reduceAdd, Nat.reduceMul, Nat.reduceLT, Nat.reduceBEq, Nat.reduceLeDiff, Nat.reduceSub] -- r1
  refine ⟨_, _, check_f c len (sees0 rfl (of_decide_eq_true rfl)), ?_⟩
  rw [h0]
  try simp -implicitDefEqProofs (disch := first | decide | exact of_eq_true (eq_true rfl) | omega | assumption) only [ ↓vcD, vcE, ↓vcG, vcF, evs, evP, evB, intsOf, fillC, Value.cells, pt, Value.oneCell', reduceIte, reduceCtorEq, Nat.reduceEqDiff, Nat.reduceAdd, Nat.reduceMul, Nat.reduceLT, Nat.reduceBEq, Nat.reduceLeDiff, Nat.reduceSub]
  refine ITri.seq ?_
  refine ITri.reg pok ?_; simp -implicitDefEqProofs (disch := first | decide | exact of_eq_true (eq_true rfl) | omega | assumption) only [decide_true, Bool.not_true,  ↓vcD, vcE, ↓vcG, vcF, evs, evP, evB, intsOf, fillC, Value.cells, pt, Value.oneCell', reduceIte, reduceCtorEq, Nat.reduceEqDiff, Nat.reduceAdd, Nat.reduceMul, Nat.reduceLT, Nat.reduceBEq, Nat.reduceLeDiff, Nat.reduceSub] -- r2
  refine ITri.cond (v := false) rfl (fun h => by cases h) (fun _ => ?_); refine ITri.skip ?_; simp only [SeqQ_normal, BlkQ_normal]
  refine ITri.seq ?_
  refine ITri.reg pok ?_; simp -implicitDefEqProofs (disch := first | decide | exact of_eq_true (eq_true rfl) | omega | assumption) only [wr11a, wr11b, wr11c,  ↓vcD, vcE, ↓vcG, vcF, evs, evP, evB, intsOf, fillC, Value.cells, pt, Value.oneCell', reduceIte, reduceCtorEq, Nat.reduceEqDiff, Nat.reduceAdd, Nat.reduceMul, Nat.reduceLT, Nat.reduceBEq, Nat.reduceLeDiff, Nat.reduceSub] -- r4
  refine ITri.seq ?_
  refine ITri.reg pok ?_; simp -implicitDefEqProofs (disch := first | decide | exact of_eq_true (eq_true rfl) | omega | assumption) only [ ↓vcD, vcE, ↓vcG, vcF, evs, evP, evB, intsOf, fillC, Value.cells, pt, Value.oneCell', reduceIte, reduceCtorEq, Nat.reduceEqDiff, Nat.reduceAdd, Nat.reduceMul, Nat.reduceLT, Nat.reduceBEq, Nat.reduceLeDiff, Nat.reduceSub] -- r5
  refine ⟨_, _, T1 (sees0 rfl (of_decide_eq_true rfl)), ?_⟩
  simp -implicitDefEqProofs (disch := first | decide | exact of_eq_true (eq_true rfl) | omega | assumption) only [news_c, news_n,  ↓vcD, vcE, ↓vcG, vcF, evs, evP, evB, intsOf, fillC, Value.cells, pt, Value.oneCell', reduceIte, reduceCtorEq, Nat.reduceEqDiff, Nat.reduceAdd, Nat.reduceMul, Nat.reduceLT, Nat.reduceBEq, Nat.reduceLeDiff, Nat.reduceSub]
  refine ITri.seq ?_
  refine ITri.reg pok ?_; simp -implicitDefEqProofs (disch := first | decide | exact of_eq_true (eq_true rfl) | omega | assumption) only [ ↓vcD, vcE, ↓vcG, vcF, evs, evP, evB, intsOf, fillC, Value.cells, pt, Value.oneCell', reduceIte, reduceCtorEq, Nat.reduceEqDiff, Nat.reduceAdd, Nat.reduceMul, Nat.reduceLT, Nat.reduceBEq, Nat.reduceLeDiff, Nat.reduceSub] -- r6
  refine ⟨_, _, T2 (sees0 rfl (of_decide_eq_true rfl)), ?_⟩
  simp -implicitDefEqProofs (disch := first | decide | exact of_eq_true (eq_true rfl) | omega | assumption) only [news_c, news_n,  ↓vcD, vcE, ↓vcG, vcF, evs, evP, evB, intsOf, fillC, Value.cells, pt, Value.oneCell', reduceIte, reduceCtorEq, Nat.reduceEqDiff, Nat.reduceAdd, Nat.reduceMul, Nat.reduceLT, Nat.reduceBEq, Nat.reduceLeDiff, Nat.reduceSub]
  refine ITri.seq ?_
  refine ITri.draw pok ?_; simp -implicitDefEqProofs (disch := first | decide | exact of_eq_true (eq_true rfl) | omega | assumption) only [ ↓vcD, vcE, ↓vcG, vcF, evs, evP, evB, intsOf, fillC, Value.cells, pt, Value.oneCell', reduceIte, reduceCtorEq, Nat.reduceEqDiff, Nat.reduceAdd, Nat.reduceMul, Nat.reduceLT, Nat.reduceBEq, Nat.reduceLeDiff, Nat.reduceSub] -- r7
  refine ⟨_, _, sum_f l2 k2 hb (sees0 rfl (of_decide_eq_true rfl)) (get_hq rfl rfl), ?_⟩
  try simp -implicitDefEqProofs (disch := first | decide | exact of_eq_true (eq_true rfl) | omega | assumption) only [ ↓vcD, vcE, ↓vcG, vcF, evs, evP, evB, intsOf, fillC, Value.cells, pt, Value.oneCell', reduceIte, reduceCtorEq, Nat.reduceEqDiff, Nat.reduceAdd, Nat.reduceMul, Nat.reduceLT, Nat.reduceBEq, Nat.reduceLeDiff, Nat.reduceSub]
  refine ⟨_, _, sum_f l1 k1 hb (sees0 rfl (of_decide_eq_true rfl)) (get_hq rfl rfl), ?_⟩
  simp -implicitDefEqProofs (disch := first | decide | exact of_eq_true (eq_true rfl) | omega | assumption) only [wr8a, wr8b, wr8c, wr8d,  ↓vcD, vcE, ↓vcG, vcF, evs, evP, evB, intsOf, fillC, Value.cells, pt, Value.oneCell', reduceIte, reduceCtorEq, Nat.reduceEqDiff, Nat.reduceAdd, Nat.reduceMul, Nat.reduceLT, Nat.reduceBEq, Nat.reduceLeDiff, Nat.reduceSub]
  rw [l3, l4]
  exact predict_r (x := sO 6 n) (x2 := sO 9 n) (y := .int .i64 top) (u := .int .i64 tb) (v := .int .i64 nb) (s0 := ⟨0, .slice none 0 0, _⟩) ⟨Nat.zero_le _, rfl, rfl, rfl, rfl, rfl, rfl, rfl, rfl, .inl ⟨rfl, rfl⟩⟩ rfl V hn l3 l4 (by omega) ha7
theorem KF_lenU (d0 : Int) (W S : List Int) : (KF c len d0 W S (usF c len)).length = usF c len := KF_len c len d0 W S _
theorem predict_c (V : Vd c len) (h0 : ckE c len = 0) : ∃ a1 a2 a3 a4 a5 a6 a7, Fc Try.prog 5 [wirV c, webV c, .int .i64 len] (Hp 1 [none]) (.tuple #[.agg #[.slice (some ⟨1, 0, none⟩) (usF c len - 1) openB, .int .i64 a1, .int .i64 a2, .int .i64 a3, .int .i64 a4, .int .i64 a5, .int .i64 a6, .int .u8 a7], .int .i64 0]) ((Hp 1 [none]).news [.cells ⟨pairs (tkS c len) (tnS c len) (usF c len - 1), 2, true⟩]) := by
  have hm := usF_le V
  have g2 := V.g2
  have n1 := V.n1
  have n2 := V.n2
  have s1 := V.s1
  have s2 := V.s2
  have r1 := restF_bd V (thick_ok V) (Nat.le_refl _)
  have r2 := restF_bd V (thin_ok V) (Nat.le_refl _)
  exact predict_g V h0 rfl (thick_f V) (thin_f V) (KF_mem V (thick_ok V) _ (Nat.le_refl _)) (KF_mem V (thin_ok V) _ (Nat.le_refl _)) (KF_lenU _ _ _) (KF_lenU _ _ _) (SFn_len c len _ _ _ rfl) (SFn_len c len _ _ _ rfl) (by omega) (by omega) (by omega) (by omega)
end
end Go.Proofs.Ytjfgbdmdnejhdaa
