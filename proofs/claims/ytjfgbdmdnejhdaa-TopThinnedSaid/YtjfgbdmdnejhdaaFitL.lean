/-
  Chapters 8 to 10 at the top: a cut, by names.
-/
import Derived.Test.YtjfgbdmdnejhdaaFitK
set_option linter.unusedSimpArgs false
set_option linter.unusedVariables false
namespace Go.Vm
open Go Go.RowKit
/-- How a function ends that returns a struct with two of its own rows, and two numbers. -/
theorem end_cut {P : Program} {rs : List ResultVar} {l : Fr} {L : List (Option AObj)} {k k2 n m b sz sz2 : Nat} {x y z e : Int} {cs ds : List Value} (hk : b ≤ k) (hk2 : b ≤ k2) (hne : k ≠ k2) (hno : noAddrL cs = true) (hno2 : noAddrL ds = true) (hL : L[k]? = some (some (.cells ⟨cs, sz, true⟩))) (hL2 : L[k2]? = some (some (.cells ⟨ds, sz2, true⟩)))
    (hr : resF P l (Hp b L) rs = some [.agg ⟨[.slice (some ⟨k, 0, none⟩) n openB, .slice (some ⟨k2, 0, none⟩) m openB, .int .i64 x, .int .i64 y]⟩, .int .i64 z, .int .i64 e]) :
    EndR P rs b [.cells ⟨cs, sz, true⟩, .cells ⟨ds, sz2, true⟩] (.tuple #[.agg #[.slice (some ⟨b, 0, none⟩) n openB, .slice (some ⟨b + 1, 0, none⟩) m openB, .int .i64 x, .int .i64 y], .int .i64 z, .int .i64 e]) .ret l [] (Hp b L) := by
  refine ⟨by simp, rfl, _, [k, k2], [], hr, rfl, by simp [hne], by simp [hk, hk2], (fun p hp => by cases hp), ?_, ?_, fun i o2 h => .inr ?_⟩
  · show Value.tuple #[.agg #[_, _, _, _], _, _] = .tuple ⟨[.agg ⟨[mvS .same ⟨(fun k' => if k' < b then k' else [k, k2].getD (k' - b) 0) b, 0, none⟩ n openB, mvS .same ⟨(fun k' => if k' < b then k' else [k, k2].getD (k' - b) 0) (b + 1), 0, none⟩ m openB, _, _]⟩, _, _]⟩
    have h1 : ¬ b + 1 < b := by omega
    have h2 : b + 1 - b = 1 := by omega
    simp [mvS, h1, h2]
    exact ⟨⟨rfl, rfl⟩, rfl, rfl⟩
  · exact ⟨⟨⟨by simp, trivial⟩, ⟨by simp, trivial⟩, trivial, trivial, trivial⟩, trivial, trivial, trivial⟩
  · match i, h with
    | 0, h =>
      cases h
      refine ⟨(by intro e; cases e), _, (by show (Hp b L).get k = _; rw [Hp_get, hL]; rfl), ?_⟩
      exact ⟨(mvL_noAddr _ _ _ hno).symm, okML_noAddr _ _ _ hno, fun e => e, fun e => ⟨e, rfl⟩⟩
    | 1, h =>
      cases h
      refine ⟨(by intro e; cases e), _, (by show (Hp b L).get k2 = _; rw [Hp_get, hL2]; rfl), ?_⟩
      exact ⟨(mvL_noAddr _ _ _ hno2).symm, okML_noAddr _ _ _ hno2, fun e => e, fun e => ⟨e, rfl⟩⟩
end Go.Vm
namespace Go.Proofs.Ytjfgbdmdnejhdaa
open Go.RowKit Go.Vm
set_option maxRecDepth 100000

theorem okc_int : okCell Try.prog 3 = true := by kernel_rfl
abbrev cI (c : Wb) (len dd : Int) (W S : List Int) (n : Nat) (m : Int) (s k : Value) (top la be re di : Int) : List (Option AObj) :=
  [none, cuB dd 2 3 n, some (.cells ⟨rows eI W, 0, false⟩), some (.cells ⟨rows eI S, 0, false⟩), sawO c len, some (.cells ⟨[s, k, .int .i64 top, .int .i64 0], 1, false⟩), inB1 la, inB1 be, inB1 m, inB1 re, sawO c len, inB1 di, some (.cells ⟨[fB 48 1], 1, false⟩)]
abbrev cHm (c : Wb) (len dd : Int) (W S : List Int) (n : Nat) (m : Int) (s k : Value) (top bot la be re di : Int) (dm lo : Option AObj) : List (Option AObj) :=
  [none, cuB dd 2 3 n, some (.cells ⟨rows eI W, 0, false⟩), some (.cells ⟨rows eI S, 0, false⟩), sawO c len, some (.cells ⟨[s, k, .int .i64 top, .int .i64 bot], 1, false⟩), inB1 la, inB1 be, inB1 m, inB1 re, sawO c len, inB1 di, some (.cells ⟨[fB 48 1], 1, false⟩), dm, lo]
theorem cut_c (c : Wb) (len d0 dd : Int) (W S : List Int) (n : Nat) (V : Vd c len) (C : Co c len d0 W S) (hn : usF c len = n) :
    Fc Try.prog 44 [sawV c len, .int .i64 d0, fB 48 1] (Hp 4 (M4 dd W S n)) (.tuple #[ptV 4 5 (SF c len d0 W S n).length n (min c.st len) (restF c len d0 W S n), .int .i64 (laF d0 W n), .int .i64 (dF d0 W n)])
      ((Hp 4 (M4 dd W S n)).news [.cells ⟨rows eI (SF c len d0 W S n), 1, true⟩, .cells ⟨rows eI (KF c len d0 W S n), 1, true⟩]) := by
  have := V.n1
  have := V.n2
  have := V.s1
  have := V.s2
  have hr0 : len - min c.st len = restF c len d0 W S 0 := rfl
  refine Fc.introM (os := [.cells ⟨rows eI (SF c len d0 W S n), 1, true⟩, .cells ⟨rows eI (KF c len d0 W S n), 1, true⟩]) fn44 (by simp) rfl rfl ?_; simp only [argF]
  refine ITri.seq ?_
  refine ITri.reg pok ?_; simp -implicitDefEqProofs (disch := first | decide | exact of_eq_true (eq_true rfl) | omega | assumption) only [ ↓vcD, vcE, ↓vcG, vcF, evs, evP, evB, intsOf, fillC, Value.cells, pt, Value.oneCell', reduceIte, reduceCtorEq, Nat.reduceEqDiff, Nat.reduceAdd, Nat.reduceMul, Nat.reduceLT, Nat.reduceBEq, Nat.reduceLeDiff, Nat.reduceSub] -- r0 slice.go:75
  refine ITri.seq ?_
  refine ITri.reg pok ?_; simp -implicitDefEqProofs (disch := first | decide | exact of_eq_true (eq_true rfl) | omega | assumption) only [ ↓vcD, vcE, ↓vcG, vcF, evs, evP, evB, intsOf, fillC, Value.cells, pt, Value.oneCell', reduceIte, reduceCtorEq, Nat.reduceEqDiff, Nat.reduceAdd, Nat.reduceMul, Nat.reduceLT, Nat.reduceBEq, Nat.reduceLeDiff, Nat.reduceSub] -- r1 slice.go:76 CALLS .call F46 [%13]
  refine ⟨_, _, used_f c len V (sees0 rfl (of_decide_eq_true rfl)), ?_⟩
  try simp -implicitDefEqProofs (disch := first | decide | exact of_eq_true (eq_true rfl) | omega | assumption) only [ ↓vcD, vcE, ↓vcG, vcF, evs, evP, evB, intsOf, fillC, Value.cells, pt, Value.oneCell', reduceIte, reduceCtorEq, Nat.reduceEqDiff, Nat.reduceAdd, Nat.reduceMul, Nat.reduceLT, Nat.reduceBEq, Nat.reduceLeDiff, Nat.reduceSub]
  refine ITri.seq ?_
  refine ITri.reg pok ?_; simp -implicitDefEqProofs (disch := first | decide | exact of_eq_true (eq_true rfl) | omega | assumption) only [ ↓vcD, vcE, ↓vcG, vcF, evs, evP, evB, intsOf, fillC, Value.cells, pt, Value.oneCell', reduceIte, reduceCtorEq, Nat.reduceEqDiff, Nat.reduceAdd, Nat.reduceMul, Nat.reduceLT, Nat.reduceBEq, Nat.reduceLeDiff, Nat.reduceSub] -- r2 slice.go:77
  refine ITri.seq ?_
  refine ITri.reg pok ?_; simp -implicitDefEqProofs (disch := first | decide | exact of_eq_true (eq_true rfl) | omega | assumption) only [hr0,  ↓vcD, vcE, ↓vcG, vcF, evs, evP, evB, intsOf, fillC, Value.cells, pt, Value.oneCell', reduceIte, reduceCtorEq, Nat.reduceEqDiff, Nat.reduceAdd, Nat.reduceMul, Nat.reduceLT, Nat.reduceBEq, Nat.reduceLeDiff, Nat.reduceSub] -- r3 slice.go:78
  refine ITri.seq ?_
  refine ITri.reg pok ?_; simp -implicitDefEqProofs (disch := first | decide | exact of_eq_true (eq_true rfl) | omega | assumption) only [ ↓vcD, vcE, ↓vcG, vcF, evs, evP, evB, intsOf, fillC, Value.cells, pt, Value.oneCell', reduceIte, reduceCtorEq, Nat.reduceEqDiff, Nat.reduceAdd, Nat.reduceMul, Nat.reduceLT, Nat.reduceBEq, Nat.reduceLeDiff, Nat.reduceSub] -- r4 slice.go:79
  refine ITri.seq ?_
  refine ITri.seq ?_
  refine ITri.reg pok ?_; simp -implicitDefEqProofs (disch := first | decide | exact of_eq_true (eq_true rfl) | omega | assumption) only [ ↓vcD, vcE, ↓vcG, vcF, evs, evP, evB, intsOf, fillC, Value.cells, pt, Value.oneCell', reduceIte, reduceCtorEq, Nat.reduceEqDiff, Nat.reduceAdd, Nat.reduceMul, Nat.reduceLT, Nat.reduceBEq, Nat.reduceLeDiff, Nat.reduceSub] -- r5 slice.go:80 CALLS .call F76 [%28, %29, %30]
  refine ⟨_, _, course_f c len d0 1, ?_⟩
  simp -implicitDefEqProofs (disch := first | decide | exact of_eq_true (eq_true rfl) | omega | assumption) only [news_c, news_n,  ↓vcD, vcE, ↓vcG, vcF, evs, evP, evB, intsOf, fillC, Value.cells, pt, Value.oneCell', reduceIte, reduceCtorEq, Nat.reduceEqDiff, Nat.reduceAdd, Nat.reduceMul, Nat.reduceLT, Nat.reduceBEq, Nat.reduceLeDiff, Nat.reduceSub]
  refine ITri.block ?_
  have E0 : ∀ px cx cy, (Hp 4 (cI c len dd W S n (usF c len) (.slice none 0 0) (.slice none 0 0) (min c.st len) d0 0 (restF c len d0 W S 0) d0 ++ [DT])).new (.loop ⟨.ready, none, trOf (cF0 (usF c len)), 74, px, cx, cy, 13⟩) = Hp 4 (cH c len dd W S n (usF c len) (.slice none 0 0) (.slice none 0 0) (min c.st len) d0 0 (restF c len d0 W S 0) d0 (cLo (usF c len) px cx cy .ready none)) := fun px cx cy => by
    rw [Hq_new]
    rfl
  have E1 : ∀ L : List (Option AObj), L.length = 13 → aEnter none [] (Hp 4 L) = some (13, [13], Hp 4 (L ++ [DT])) := fun L hL => by
    show some ((Hp 4 L).next, [(Hp 4 L).next], (Hp 4 L).new (.deferred true)) = _
    rw [Hq_new, Hq_next, hL]
  show ITri Try.prog 74 none 4 ir44_13 (cF0 (usF c len)) [] (Hp 4 (cI c len dd W S n (usF c len) (.slice none 0 0) (.slice none 0 0) (min c.st len) d0 0 (restF c len d0 W S 0) d0)) _
  refine ITri.rf pok (dn := 13) (m1 := [13]) (h1 := Hp 4 (cI c len dd W S n (usF c len) (.slice none 0 0) (.slice none 0 0) (min c.st len) d0 0 (restF c len d0 W S 0) d0 ++ [DT])) (by rfl) (E1 _ rfl) fun px cx cy hpx hcx hcy => ?_
  have BL := (course1_f c len d0 dd W S n hpx hcx hcy V C hn).at (E0 px cx cy)
  have hX : (Hp 4 (cI c len dd W S n (usF c len) (.slice none 0 0) (.slice none 0 0) (min c.st len) d0 0 (restF c len d0 W S 0) d0 ++ [DT])).next = 14 := rfl
  rw [hX]
  have hgo : (Hp 4 (cH c len dd W S n (usF c len) (sO 15 (SF c len d0 W S n).length) (sO 16 n) (min c.st len) (laF d0 W n) (dF d0 W n) (restF c len d0 W S n) (dF d0 W n) (cLo (usF c len) px cx cy .done (some (.exit 0))) ++ [rowO (SF c len d0 W S n), rowO (KF c len d0 W S n)])).get 14 = some (.loop ⟨.done, some (.exit 0), trOf (cF0 (usF c len)), 74, px, cx, cy, 13⟩) := by
    rw [Hp_get]
    rfl
  have hput : (Hp 4 (cH c len dd W S n (usF c len) (sO 15 (SF c len d0 W S n).length) (sO 16 n) (min c.st len) (laF d0 W n) (dF d0 W n) (restF c len d0 W S n) (dF d0 W n) (cLo (usF c len) px cx cy .done (some (.exit 0))) ++ [rowO (SF c len d0 W S n), rowO (KF c len d0 W S n)])).put 14 (cLo (usF c len) px cx cy .exhausted (some (.exit 0))) = Hp 4 (cH c len dd W S n (usF c len) (sO 15 (SF c len d0 W S n).length) (sO 16 n) (min c.st len) (laF d0 W n) (dF d0 W n) (restF c len d0 W S n) (dF d0 W n) (cLo (usF c len) px cx cy .exhausted (some (.exit 0))) ++ [rowO (SF c len d0 W S n), rowO (KF c len d0 W S n)]) := by
    rw [Hq_put _ _ (by simp)]
    rfl
  refine ⟨_, _, ⟨.done, some (.exit 0), trOf (cF0 (usF c len)), 74, px, cx, cy, 13⟩, BL, hgo, by simp, .exit 0, rfl, ?_⟩
  rw [hput]
  generalize laF d0 W n = la at *
  generalize dF d0 W n = be at *
  clear hgo hput BL E0 E1 hX
  try simp -implicitDefEqProofs (disch := first | decide | exact of_eq_true (eq_true rfl) | omega | assumption) only [ ↓vcD, vcE, ↓vcG, vcF, evs, evP, evB, intsOf, fillC, Value.cells, pt, Value.oneCell', reduceIte, reduceCtorEq, Nat.reduceEqDiff, Nat.reduceAdd, Nat.reduceMul, Nat.reduceLT, Nat.reduceBEq, Nat.reduceLeDiff, Nat.reduceSub]
  refine ITri.seq ?_
  refine ITri.reg pok ?_; simp -implicitDefEqProofs (disch := first | decide | exact of_eq_true (eq_true rfl) | omega | assumption) only [ ↓vcD, vcE, ↓vcG, vcF, evs, evP, evB, intsOf, fillC, Value.cells, pt, Value.oneCell', reduceIte, reduceCtorEq, Nat.reduceEqDiff, Nat.reduceAdd, Nat.reduceMul, Nat.reduceLT, Nat.reduceBEq, Nat.reduceLeDiff, Nat.reduceSub] -- r16
  refine ITri.seq ?_
  refine ITri.draw pok ?_; simp -implicitDefEqProofs (disch := first | decide | exact of_eq_true (eq_true rfl) | omega | assumption) only [ ↓vcD, vcE, ↓vcG, vcF, evs, evP, evB, intsOf, fillC, Value.cells, pt, Value.oneCell', reduceIte, reduceCtorEq, Nat.reduceEqDiff, Nat.reduceAdd, Nat.reduceMul, Nat.reduceLT, Nat.reduceBEq, Nat.reduceLeDiff, Nat.reduceSub] -- r17
  refine ITri.ret ?_
  refine ⟨Hp 4 (cHm c len dd W S n (usF c len) (sO 15 (SF c len d0 W S n).length) (sO 16 n) (min c.st len) (restF c len d0 W S n) la be (restF c len d0 W S n) be DF (cLo (usF c len) px cx cy .exhausted (some (.exit 0))) ++ [rowO (SF c len d0 W S n), rowO (KF c len d0 W S n)]), ?_, ?_⟩
  · have hg : (Hp 4 (cHm c len dd W S n (usF c len) (sO 15 (SF c len d0 W S n).length) (sO 16 n) (min c.st len) (restF c len d0 W S n) la be (restF c len d0 W S n) be DT (cLo (usF c len) px cx cy .exhausted (some (.exit 0))) ++ [rowO (SF c len d0 W S n), rowO (KF c len d0 W S n)])).get 13 = some (.deferred true) := by rw [Hp_get]; rfl
    refine Eq.trans (show aMarks [13] (Hp 4 (cHm c len dd W S n (usF c len) (sO 15 (SF c len d0 W S n).length) (sO 16 n) (min c.st len) (restF c len d0 W S n) la be (restF c len d0 W S n) be DT (cLo (usF c len) px cx cy .exhausted (some (.exit 0))) ++ [rowO (SF c len d0 W S n), rowO (KF c len d0 W S n)])) = some ((Hp 4 (cHm c len dd W S n (usF c len) (sO 15 (SF c len d0 W S n).length) (sO 16 n) (min c.st len) (restF c len d0 W S n) la be (restF c len d0 W S n) be DT (cLo (usF c len) px cx cy .exhausted (some (.exit 0))) ++ [rowO (SF c len d0 W S n), rowO (KF c len d0 W S n)])).put 13 (some (.deferred false))) from ?_) ?_
    · simp only [aMarks, hg]
      rw [if_pos (by show 4 ≤ 13; omega)]
    · rw [Hq_put _ _ (by simp)]
      rfl
  have hR : resF Try.prog [(6, pt 5), (7, pt 6), (8, pt 7)] (Hp 4 (cHm c len dd W S n (usF c len) (sO 15 (SF c len d0 W S n).length) (sO 16 n) (min c.st len) (restF c len d0 W S n) la be (restF c len d0 W S n) be DF (cLo (usF c len) px cx cy .exhausted (some (.exit 0))) ++ [rowO (SF c len d0 W S n), rowO (KF c len d0 W S n)])) [.cell 6 43, .cell 7 3, .cell 8 3] = some [.agg ⟨[sO 15 (SF c len d0 W S n).length, sO 16 n, .int .i64 (min c.st len), .int .i64 (restF c len d0 W S n)]⟩, .int .i64 la, .int .i64 be] := resF_agg 4 rfl (by kernel_rfl) (by simp -implicitDefEqProofs (disch := first | decide | exact of_eq_true (eq_true rfl) | omega | assumption) only [↓vcD, vcE, ↓vcG, vcF, evs, evP, evB, intsOf, fillC, Value.cells, pt, Value.oneCell', reduceIte, reduceCtorEq, Nat.reduceEqDiff, Nat.reduceAdd, Nat.reduceMul, Nat.reduceLT, Nat.reduceBEq, Nat.reduceLeDiff, Nat.reduceSub]) (resF_cell rfl okc_int (by simp -implicitDefEqProofs (disch := first | decide | exact of_eq_true (eq_true rfl) | omega | assumption) only [↓vcD, vcE, ↓vcG, vcF, evs, evP, evB, intsOf, fillC, Value.cells, pt, Value.oneCell', reduceIte, reduceCtorEq, Nat.reduceEqDiff, Nat.reduceAdd, Nat.reduceMul, Nat.reduceLT, Nat.reduceBEq, Nat.reduceLeDiff, Nat.reduceSub]) (resF_cell rfl okc_int (by simp -implicitDefEqProofs (disch := first | decide | exact of_eq_true (eq_true rfl) | omega | assumption) only [↓vcD, vcE, ↓vcG, vcF, evs, evP, evB, intsOf, fillC, Value.cells, pt, Value.oneCell', reduceIte, reduceCtorEq, Nat.reduceEqDiff, Nat.reduceAdd, Nat.reduceMul, Nat.reduceLT, Nat.reduceBEq, Nat.reduceLeDiff, Nat.reduceSub]) resF_nil))
  exact end_cut (k := 15) (k2 := 16) (by decide) (by decide) (by decide) (rows_no (f := eI) _) (rows_no (f := eI) _) rfl rfl hR
end Go.Proofs.Ytjfgbdmdnejhdaa
