/-
  Chapters 8 to 10 at the top: a course with one choice, by names.
-/
import Derived.Test.YtjfgbdmdnejhdaaFitJ
set_option linter.unusedSimpArgs false
set_option linter.unusedVariables false
namespace Go.Proofs.Ytjfgbdmdnejhdaa
open Go.RowKit Go.Vm
set_option maxRecDepth 100000
abbrev alB (wa sl : Int) : Option AObj := some (.cells ⟨[.int .i64 wa, .int .i64 sl], 1, false⟩)
abbrev M4A (wa sl : Int) : List (Option AObj) := [none, alB wa sl, none, none]
/- boule/slice.always · slots 4 · names 0:c 1:c · results [2] -/
def ir45_r0 : IC := .reg [⟨some 1, none, false, .box (.t 0)⟩,
  ⟨some 2, none, false, .mv (.k .nilFunc)⟩] (some [1])
def ir45_r1 : IC := .reg [⟨some 3, none, false, .mkf 62 [] [(.t 1)]⟩,
  ⟨some 2, none, false, .mv (.t 3)⟩] (some [2])
def ir45_1 : IC := .seq ir45_r1 .ret
def ir45_2 : IC := .seq ir45_r0 ir45_1
def ir45 : IC := ir45_2
theorem fn45 : FnIs Try.prog 45 ir45 4 [.tmp 2] := ⟨Try.f45, Try.f45.body.getD .skip, Try.func45, by kernel_rfl, by kernel_rfl, by kernel_rfl, by kernel_rfl⟩
/- boule/slice.always$1 · slots 5 · names  · results [3] -/
def ir62_r0 : IC := .reg [⟨some 3, none, false, .alloc [(.int .i64 0), (.int .i64 0)]⟩] (some [1, 3])
def ir62_r1 : IC := .reg [⟨some 4, none, false, .lda 2 (.t 1)⟩,
  ⟨none, none, false, .st 2 (.t 3) (.t 4)⟩] (some [3])
def ir62_1 : IC := .seq ir62_r1 .ret
def ir62_2 : IC := .seq ir62_r0 ir62_1
def ir62 : IC := ir62_2
theorem fn62 : FnIs Try.prog 62 ir62 5 [.cell 3 107] := ⟨Try.f62, Try.f62.body.getD .skip, Try.func62, by kernel_rfl, by kernel_rfl, by kernel_rfl, by kernel_rfl⟩
theorem alw_c (wa sl i : Int) : Fc Try.prog 62 [.int .i64 i, pt 1] (Hp 2 [none, alB wa sl]) (.agg #[.int .i64 wa, .int .i64 sl]) (Hp 2 [none, alB wa sl]) := by
  refine Fc.intro0 fn62 (by simp) rfl rfl ?_; simp only [argF]
  refine ITri.seq ?_
  refine ITri.reg pok ?_; simp -implicitDefEqProofs (disch := first | decide | exact of_eq_true (eq_true rfl) | omega | assumption) only [ ↓vcD, vcE, ↓vcG, vcF, evs, evP, evB, intsOf, fillC, Value.cells, pt, Value.oneCell', reduceIte, reduceCtorEq, Nat.reduceEqDiff, Nat.reduceAdd, Nat.reduceMul, Nat.reduceLT, Nat.reduceBEq, Nat.reduceLeDiff, Nat.reduceSub]
  refine ITri.seq ?_
  refine ITri.reg pok ?_; simp -implicitDefEqProofs (disch := first | decide | exact of_eq_true (eq_true rfl) | omega | assumption) only [ ↓vcD, vcE, ↓vcG, vcF, evs, evP, evB, intsOf, fillC, Value.cells, pt, Value.oneCell', reduceIte, reduceCtorEq, Nat.reduceEqDiff, Nat.reduceAdd, Nat.reduceMul, Nat.reduceLT, Nat.reduceBEq, Nat.reduceLeDiff, Nat.reduceSub]
  refine ITri.ret ?_; exact EndR.plain (vs := [.agg ⟨[.int .i64 wa, .int .i64 sl]⟩]) (by simp) (resF_agg 2 rfl (by kernel_rfl) (by simp -implicitDefEqProofs (disch := first | decide | exact of_eq_true (eq_true rfl) | omega | assumption) only [↓vcD, vcE, ↓vcG, vcF, evs, evP, evB, intsOf, fillC, Value.cells, pt, Value.oneCell', reduceIte, reduceCtorEq, Nat.reduceEqDiff, Nat.reduceAdd, Nat.reduceMul, Nat.reduceLT, Nat.reduceBEq, Nat.reduceLeDiff, Nat.reduceSub]) resF_nil) (by rfl) (by rfl)
/-- A box, framed. -/
theorem frA {wa sl : Int} {h : AH} {k : Nat} (h0 : h.sees 0 = true) (hk : h.get k = some (.cells ⟨[.int .i64 wa, .int .i64 sl], 1, false⟩)) : frOK h (psL [(0, 0, false), (k, 0, false)]) 2 0 [none, alB wa sl] := by
  refine ⟨fr_none h0, ⟨get_sees hk, fun ob e => ?_⟩, trivial⟩
  cases e
  refine .inr ⟨(fun e => by cases e), _, hk, ?_⟩
  exact ⟨⟨[], rfl⟩, (fun e => by cases e), ⟨trivial, trivial, trivial⟩, (fun e => by cases e), fun _ => Nat.one_ne_zero⟩
theorem alw_f {wa sl : Int} {i : Int} {h : AH} {k : Nat} (h0 : h.sees 0 = true) (hk : h.get k = some (.cells ⟨[.int .i64 wa, .int .i64 sl], 1, false⟩)) : Fc Try.prog 62 [.int .i64 i, pt k] h (.agg #[.int .i64 wa, .int .i64 sl]) h :=
  Fc.frameL (Lc := [none, alB wa sl]) (os := []) (alw_c wa sl i) [(0, 0, false), (k, 0, false)] rfl (frA h0 hk) ⟨trivial, ⟨show 1 < 2 by decide, trivial⟩, trivial⟩ (okM_noAddr _ _ _ rfl) (fun o ho => by cases ho) rfl (mw_noAddr _ _ rfl) rfl
theorem always_f (wa sl : Int) {h : AH} : Fc Try.prog 45 [.agg #[.int .i64 wa, .int .i64 sl]] h (fB 62 h.next) (h.new (.cells ⟨[.int .i64 wa, .int .i64 sl], 1, false⟩)) := by
  refine Fc.introX fn45 (by simp) (fun hw => news_grow hw [_]) ?_; simp only [argF]
  refine ITri.seq ?_
  refine ITri.reg pok ?_; simp -implicitDefEqProofs (disch := first | decide | exact of_eq_true (eq_true rfl) | omega | assumption) only [ ↓vcD, vcE, ↓vcG, vcF, evs, evP, evB, intsOf, fillC, Value.cells, pt, Value.oneCell', reduceIte, reduceCtorEq, Nat.reduceEqDiff, Nat.reduceAdd, Nat.reduceMul, Nat.reduceLT, Nat.reduceBEq, Nat.reduceLeDiff, Nat.reduceSub]
  refine ITri.seq ?_
  refine ITri.reg pok ?_; simp -implicitDefEqProofs (disch := first | decide | exact of_eq_true (eq_true rfl) | omega | assumption) only [ ↓vcD, vcE, ↓vcG, vcF, evs, evP, evB, intsOf, fillC, Value.cells, pt, Value.oneCell', reduceIte, reduceCtorEq, Nat.reduceEqDiff, Nat.reduceAdd, Nat.reduceMul, Nat.reduceLT, Nat.reduceBEq, Nat.reduceLeDiff, Nat.reduceSub]
  refine ITri.ret ?_
  exact EndX.mk (by simp) rfl rfl rfl
theorem course_fA (c : Wb) (len d0 : Int) (k : Nat) {h : AH} : Fc Try.prog 61 [sawV c len, .int .i64 d0, fB 62 k] h (.func (.func 68) #[] #[pt h.next, pt (h.next + 2), pt (h.next + 1)])
    (h.news [.cells ⟨[.int .i64 c.dl, .int .i64 c.dh, .int .i64 c.wl, .int .i64 c.wh, .int .i64 c.le, .int .i64 c.p, .int .i64 c.g, .int .i64 c.st, .int .i64 c.sl, .int .i64 c.sh, .int .i64 len], 1, false⟩, .cells ⟨[.int .i64 d0], 1, false⟩, .cells ⟨[fB 62 k], 1, false⟩]) := by
  refine Fc.introX fn61 (by simp) (fun hw => news_grow hw _) ?_; simp only [argF]
  refine ITri.seq ?_
  refine ITri.reg pok ?_; simp -implicitDefEqProofs (disch := first | decide | exact of_eq_true (eq_true rfl) | omega | assumption) only [ ↓vcD, vcE, ↓vcG, vcF, evs, evP, evB, intsOf, fillC, Value.cells, pt, Value.oneCell', reduceIte, reduceCtorEq, Nat.reduceEqDiff, Nat.reduceAdd, Nat.reduceMul, Nat.reduceLT, Nat.reduceBEq, Nat.reduceLeDiff, Nat.reduceSub]
  refine ITri.seq ?_
  refine ITri.reg pok ?_; simp -implicitDefEqProofs (disch := first | decide | exact of_eq_true (eq_true rfl) | omega | assumption) only [ ↓vcD, vcE, ↓vcG, vcF, evs, evP, evB, intsOf, fillC, Value.cells, pt, Value.oneCell', reduceIte, reduceCtorEq, Nat.reduceEqDiff, Nat.reduceAdd, Nat.reduceMul, Nat.reduceLT, Nat.reduceBEq, Nat.reduceLeDiff, Nat.reduceSub]
  refine ITri.ret ?_
  exact EndX.mk (by simp) rfl rfl rfl

abbrev cHA (c : Wb) (len wa sl : Int) (m : Int) (s k : Value) (top la be re di : Int) (lo : Option AObj) : List (Option AObj) :=
  [none, alB wa sl, none, none, sawO c len, some (.cells ⟨[s, k, .int .i64 top, .int .i64 0], 1, false⟩), inB1 la, inB1 be, inB1 m, inB1 re, sawO c len, inB1 di, some (.cells ⟨[fB 62 1], 1, false⟩), DT, lo]
section
variable (c : Wb) (len d0 wa sl : Int) (W S : List Int) (n : Nat)
/-- A round. -/
theorem cut_yield1A {px : Array Tmp} {cx cy : Code} (hpx : px.toList = [32, 33]) (hcx : rC Try.prog 74 cx = some ir44_1.er) (hcy : rC Try.prog 74 cy = some ir44_12.er) (V : Vd c len) (C : Co c len d0 W S) (j : Nat) (hj : j < usF c len) (x : Option AObj) (la be : Int) :
    Yl Try.prog 14 [.int .i64 (dF d0 W j), .int .i64 (kfF c len d0 W S j)]
      (Hp 4 (cHA c len wa sl (usF c len) (sO 15 (SF c len d0 W S j).length) (sO 16 j) (min c.st len) la be (restF c len d0 W S j) (dF d0 W j) (cLo (usF c len) px cx cy .ready none) ++ [rowO (SF c len d0 W S j), rowO (KF c len d0 W S j), x]))
      (.bool true)
      (Hp 4 (cHA c len wa sl (usF c len) (if j + 1 < usF c len then sO 21 (SF c len d0 W S (j + 1)).length else sO 15 (SF c len d0 W S (j + 1)).length) (sO 19 (j + 1)) (min c.st len) (dF d0 W j) (dF d0 W j) (restF c len d0 W S (j + 1)) (dF d0 W j) (cLo (usF c len) px cx cy .ready none) ++ (if j + 1 < usF c len then [none, none, x, some (.cells ⟨[.int .i64 (kfF c len d0 W S j)], 1, false⟩), rowO (KF c len d0 W S (j + 1)), some (.cells ⟨[.int .i64 (c.p - kfF c len d0 W S j)], 1, false⟩), rowO (SF c len d0 W S (j + 1))] else [rowO (SF c len d0 W S (j + 1)), none, x, some (.cells ⟨[.int .i64 (kfF c len d0 W S j)], 1, false⟩), rowO (KF c len d0 W S (j + 1))]))) := by
  have hb := kfF_bd V C hj
  have hr := restF_bd V C (show j ≤ usF c len by omega)
  have hr2 := restF_bd V C (show j + 1 ≤ usF c len by omega)
  have hm := usF_le V
  have := V.p2
  have := V.g2
  have hK : KF c len d0 W S (j + 1) = KF c len d0 W S j ++ [kfF c len d0 W S j] := rfl
  have hKl : (rows eI (KF c len d0 W S j)).length = j * 1 := by rw [rows_len (f := eI), KF_len]
  have hS : SF c len d0 W S (j + 1) = SF c len d0 W S j ++ (if j + 1 < usF c len then [c.p - kfF c len d0 W S j] else []) := rfl
  have hSl : (rows eI (SF c len d0 W S j)).length = (SF c len d0 W S j).length * 1 := by rw [rows_len (f := eI)]
  have hSn : (SF c len d0 W S j).length ≤ 2000 := by rw [SF_len _ _ _ _ _ j (by omega)]; omega
  have hR : restF c len d0 W S (j + 1) = restF c len d0 W S j - kfF c len d0 W S j - (if j + 1 < usF c len then c.p - kfF c len d0 W S j else 0) := rfl
  have k1 : rows eI (KF c len d0 W S j) ++ [Value.int .i64 (kfF c len d0 W S j)] = rows eI (KF c len d0 W S (j + 1)) := by
    rw [hK, rows_append]; rfl
  generalize kfF c len d0 W S j = kf at *
  generalize restF c len d0 W S (j + 1) = re2 at *
  generalize restF c len d0 W S j = re at *
  generalize dF d0 W j = di at *
  generalize hMM : usF c len = M at *
  have g0 : ¬ kf < 0 := by omega
  refine Yl.introI (dn := 13) (lf := cF0 M) (pd := none) (by rw [Hp_get]; rfl) hpx hcx hcy rfl (by show 4 ≤ 14; omega) rfl (fun _ => grow_hq (by split <;> simp) (by simp)) ?_
  refine ITri.seq ?_
  refine ITri.reg pok ?_; simp -implicitDefEqProofs (disch := first | decide | exact of_eq_true (eq_true rfl) | omega | assumption) only [ ↓vcD, vcE, ↓vcG, vcF, evs, evP, evB, intsOf, fillC, Value.cells, pt, Value.oneCell', reduceIte, reduceCtorEq, Nat.reduceEqDiff, Nat.reduceAdd, Nat.reduceMul, Nat.reduceLT, Nat.reduceBEq, Nat.reduceLeDiff, Nat.reduceSub] -- r6
  refine ITri.reg pok ?_; simp -implicitDefEqProofs (disch := first | decide | exact of_eq_true (eq_true rfl) | omega | assumption) only [ ↓vcD, vcE, ↓vcG, vcF, evs, evP, evB, intsOf, fillC, Value.cells, pt, Value.oneCell', reduceIte, reduceCtorEq, Nat.reduceEqDiff, Nat.reduceAdd, Nat.reduceMul, Nat.reduceLT, Nat.reduceBEq, Nat.reduceLeDiff, Nat.reduceSub] -- r7
  refine ⟨rfl, ⟨.ready, none, trOf (cF0 M), 74, px, cx, cy, 13⟩, (by rw [Hp_get]; rfl), rfl, ?_⟩
  rw [Hq_put _ _ (by simp)]
  simp only [List.cons_append, List.nil_append, List.set_cons_succ, List.set_cons_zero]
  refine ITri.block ?_
  refine ITri.seq ?_
  refine ITri.seq ?_
  refine ITri.reg pok ?_; simp -implicitDefEqProofs (disch := first | decide | exact of_eq_true (eq_true rfl) | omega | assumption) only [ ↓vcD, vcE, ↓vcG, vcF, evs, evP, evB, intsOf, fillC, Value.cells, pt, Value.oneCell', reduceIte, reduceCtorEq, Nat.reduceEqDiff, Nat.reduceAdd, Nat.reduceMul, Nat.reduceLT, Nat.reduceBEq, Nat.reduceLeDiff, Nat.reduceSub] -- r8
  refine ITri.seq ?_
  refine ITri.reg pok ?_; simp -implicitDefEqProofs (disch := first | decide | exact of_eq_true (eq_true rfl) | omega | assumption) only [g0, decide_false,  ↓vcD, vcE, ↓vcG, vcF, evs, evP, evB, intsOf, fillC, Value.cells, pt, Value.oneCell', reduceIte, reduceCtorEq, Nat.reduceEqDiff, Nat.reduceAdd, Nat.reduceMul, Nat.reduceLT, Nat.reduceBEq, Nat.reduceLeDiff, Nat.reduceSub] -- r9
  refine ITri.cond (v := false) rfl (fun h => by cases h) (fun _ => ?_); refine ITri.skip ?_; simp only [SeqQ_normal, BlkQ_normal]
  refine ITri.seq ?_
  refine ITri.reg pok ?_; simp -implicitDefEqProofs (disch := first | decide | exact of_eq_true (eq_true rfl) | omega | assumption) only [ ↓vcD, vcE, ↓vcG, vcF, evs, evP, evB, intsOf, fillC, Value.cells, pt, Value.oneCell', reduceIte, reduceCtorEq, Nat.reduceEqDiff, Nat.reduceAdd, Nat.reduceMul, Nat.reduceLT, Nat.reduceBEq, Nat.reduceLeDiff, Nat.reduceSub] -- r10
  refine ITri.seq ?_
  refine ITri.reg pok ?_; simp -implicitDefEqProofs (disch := first | decide | exact of_eq_true (eq_true rfl) | omega | assumption) only [hKl,  ↓vcD, vcE, ↓vcG, vcF, evs, evP, evB, intsOf, fillC, Value.cells, pt, Value.oneCell', reduceIte, reduceCtorEq, Nat.reduceEqDiff, Nat.reduceAdd, Nat.reduceMul, Nat.reduceLT, Nat.reduceBEq, Nat.reduceLeDiff, Nat.reduceSub] -- r11
  rw [k1]
  refine ITri.seq ?_
  by_cases hlt : j + 1 < M
  · have g1 : ((j + 1 : Nat) : Int) < M := by omega
    rw [if_pos hlt] at hR hS
    have k2 : rows eI (SF c len d0 W S j) ++ [Value.int .i64 (c.p - kf)] = rows eI (SF c len d0 W S (j + 1)) := by
      rw [hS, rows_append]; rfl
    have k3 : (SF c len d0 W S j).length + 1 = (SF c len d0 W S (j + 1)).length := by rw [hS]; simp
    have hR2 : re - kf - (c.p - kf) = re2 := hR.symm
    simp only [hlt, if_true]
    refine ITri.reg pok ?_; simp -implicitDefEqProofs (disch := first | decide | exact of_eq_true (eq_true rfl) | omega | assumption) only [ ↓vcD, vcE, ↓vcG, vcF, evs, evP, evB, intsOf, fillC, Value.cells, pt, Value.oneCell', reduceIte, reduceCtorEq, Nat.reduceEqDiff, Nat.reduceAdd, Nat.reduceMul, Nat.reduceLT, Nat.reduceBEq, Nat.reduceLeDiff, Nat.reduceSub] -- r12
    refine ITri.seq ?_
    refine ITri.reg pok ?_; simp -implicitDefEqProofs (disch := first | decide | exact of_eq_true (eq_true rfl) | omega | assumption) only [g1, decide_true,  ↓vcD, vcE, ↓vcG, vcF, evs, evP, evB, intsOf, fillC, Value.cells, pt, Value.oneCell', reduceIte, reduceCtorEq, Nat.reduceEqDiff, Nat.reduceAdd, Nat.reduceMul, Nat.reduceLT, Nat.reduceBEq, Nat.reduceLeDiff, Nat.reduceSub] -- r13
    refine ITri.cond (v := true) rfl (fun _ => ?_) (fun h => by cases h)
    refine ITri.seq ?_
    refine ITri.reg pok ?_; simp -implicitDefEqProofs (disch := first | decide | exact of_eq_true (eq_true rfl) | omega | assumption) only [hSl,  ↓vcD, vcE, ↓vcG, vcF, evs, evP, evB, intsOf, fillC, Value.cells, pt, Value.oneCell', reduceIte, reduceCtorEq, Nat.reduceEqDiff, Nat.reduceAdd, Nat.reduceMul, Nat.reduceLT, Nat.reduceBEq, Nat.reduceLeDiff, Nat.reduceSub] -- r14
    rw [k2, k3]
    refine ITri.reg pok ?_; simp -implicitDefEqProofs (disch := first | decide | exact of_eq_true (eq_true rfl) | omega | assumption) only [hR2,  ↓vcD, vcE, ↓vcG, vcF, evs, evP, evB, intsOf, fillC, Value.cells, pt, Value.oneCell', reduceIte, reduceCtorEq, Nat.reduceEqDiff, Nat.reduceAdd, Nat.reduceMul, Nat.reduceLT, Nat.reduceBEq, Nat.reduceLeDiff, Nat.reduceSub] -- r15
    refine ⟨_, (by rw [Hp_get]; rfl), rfl, ?_⟩
    rw [Hq_put _ _ (by simp)]
    rfl
  · have g1 : ¬ ((j + 1 : Nat) : Int) < M := by omega
    rw [if_neg hlt] at hR hS
    rw [List.append_nil] at hS
    have hR2 : re - kf = re2 := by omega
    simp only [hlt, if_false]
    rw [hS]
    refine ITri.reg pok ?_; simp -implicitDefEqProofs (disch := first | decide | exact of_eq_true (eq_true rfl) | omega | assumption) only [hR2,  ↓vcD, vcE, ↓vcG, vcF, evs, evP, evB, intsOf, fillC, Value.cells, pt, Value.oneCell', reduceIte, reduceCtorEq, Nat.reduceEqDiff, Nat.reduceAdd, Nat.reduceMul, Nat.reduceLT, Nat.reduceBEq, Nat.reduceLeDiff, Nat.reduceSub] -- r12
    refine ITri.seq ?_
    refine ITri.reg pok ?_; simp -implicitDefEqProofs (disch := first | decide | exact of_eq_true (eq_true rfl) | omega | assumption) only [g1, decide_false,  ↓vcD, vcE, ↓vcG, vcF, evs, evP, evB, intsOf, fillC, Value.cells, pt, Value.oneCell', reduceIte, reduceCtorEq, Nat.reduceEqDiff, Nat.reduceAdd, Nat.reduceMul, Nat.reduceLT, Nat.reduceBEq, Nat.reduceLeDiff, Nat.reduceSub] -- r13
    refine ITri.cond (v := false) rfl (fun h => by cases h) (fun _ => ?_); refine ITri.skip ?_; simp only [SeqQ_normal, BlkQ_normal]
    refine ⟨_, (by rw [Hp_get]; rfl), rfl, ?_⟩
    rw [Hq_put _ _ (by simp)]
    rfl
/-- The last round: only the diameter. -/
theorem cut_yield2A {px : Array Tmp} {cx cy : Code} (hpx : px.toList = [32, 33]) (hcx : rC Try.prog 74 cx = some ir44_1.er) (hcy : rC Try.prog 74 cy = some ir44_12.er) (s k : Value) (m top la be re di : Int) (x y : Option AObj) :
    Yl Try.prog 14 [.int .i64 di, .int .i64 (-1)]
      (Hp 4 (cHA c len wa sl m s k top la be re di (cLo m px cx cy .ready none) ++ [x, y])) (.bool false)
      (Hp 4 (cHA c len wa sl m s k top la di re di (cLo m px cx cy .done (some (.exit 0))) ++ [x, y])) := by
  refine Yl.introI (dn := 13) (lf := cF0 m) (pd := none) (by rw [Hp_get]; rfl) hpx hcx hcy rfl (by show 4 ≤ 14; omega) rfl (fun _ => grow_hq (by simp) (by simp)) ?_
  refine ITri.seq ?_
  refine ITri.reg pok ?_; simp -implicitDefEqProofs (disch := first | decide | exact of_eq_true (eq_true rfl) | omega | assumption) only [ ↓vcD, vcE, ↓vcG, vcF, evs, evP, evB, intsOf, fillC, Value.cells, pt, Value.oneCell', reduceIte, reduceCtorEq, Nat.reduceEqDiff, Nat.reduceAdd, Nat.reduceMul, Nat.reduceLT, Nat.reduceBEq, Nat.reduceLeDiff, Nat.reduceSub] -- r6
  refine ITri.reg pok ?_; simp -implicitDefEqProofs (disch := first | decide | exact of_eq_true (eq_true rfl) | omega | assumption) only [ ↓vcD, vcE, ↓vcG, vcF, evs, evP, evB, intsOf, fillC, Value.cells, pt, Value.oneCell', reduceIte, reduceCtorEq, Nat.reduceEqDiff, Nat.reduceAdd, Nat.reduceMul, Nat.reduceLT, Nat.reduceBEq, Nat.reduceLeDiff, Nat.reduceSub] -- r7
  refine ⟨rfl, ⟨.ready, none, trOf (cF0 m), 74, px, cx, cy, 13⟩, (by rw [Hp_get]; rfl), rfl, ?_⟩
  rw [Hq_put _ _ (by simp)]
  simp only [List.cons_append, List.nil_append, List.set_cons_succ, List.set_cons_zero]
  refine ITri.block ?_
  refine ITri.seq ?_
  refine ITri.seq ?_
  refine ITri.reg pok ?_; simp -implicitDefEqProofs (disch := first | decide | exact of_eq_true (eq_true rfl) | omega | assumption) only [ ↓vcD, vcE, ↓vcG, vcF, evs, evP, evB, intsOf, fillC, Value.cells, pt, Value.oneCell', reduceIte, reduceCtorEq, Nat.reduceEqDiff, Nat.reduceAdd, Nat.reduceMul, Nat.reduceLT, Nat.reduceBEq, Nat.reduceLeDiff, Nat.reduceSub] -- r8
  refine ITri.seq ?_
  refine ITri.reg pok ?_; simp -implicitDefEqProofs (disch := first | decide | exact of_eq_true (eq_true rfl) | omega | assumption) only [Int.reduceLT, decide_true,  ↓vcD, vcE, ↓vcG, vcF, evs, evP, evB, intsOf, fillC, Value.cells, pt, Value.oneCell', reduceIte, reduceCtorEq, Nat.reduceEqDiff, Nat.reduceAdd, Nat.reduceMul, Nat.reduceLT, Nat.reduceBEq, Nat.reduceLeDiff, Nat.reduceSub] -- r9
  refine ITri.cond (v := true) rfl (fun _ => ?_) (fun h => by cases h)
  refine ITri.exit ?_; try simp -implicitDefEqProofs (disch := first | decide | exact of_eq_true (eq_true rfl) | omega | assumption) only [ ↓vcD, vcE, ↓vcG, vcF, evs, evP, evB, intsOf, fillC, Value.cells, pt, Value.oneCell', reduceIte, reduceCtorEq, Nat.reduceEqDiff, Nat.reduceAdd, Nat.reduceMul, Nat.reduceLT, Nat.reduceBEq, Nat.reduceLeDiff, Nat.reduceSub]
  refine ⟨_, (by rw [Hp_get]; rfl), rfl, ?_⟩
  rw [Hq_put _ _ (by simp)]
  rfl
end
end Go.Proofs.Ytjfgbdmdnejhdaa
