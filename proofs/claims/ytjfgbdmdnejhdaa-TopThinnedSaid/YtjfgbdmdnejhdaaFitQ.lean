/-
  Chapters 8 to 10 at the top: the widest and the narrowest cuts, by names.
-/
import Derived.Test.YtjfgbdmdnejhdaaFitLb
import Derived.Test.YtjfgbdmdnejhdaaFitP
set_option linter.unusedSimpArgs false
set_option linter.unusedVariables false
namespace Go.Proofs.Ytjfgbdmdnejhdaa
open Go.RowKit Go.Vm
set_option maxRecDepth 100000
theorem frA4 {wa sl : Int} {h : AH} {k : Nat} (h0 : h.sees 0 = true) (hk : h.get k = some (.cells ⟨[.int .i64 wa, .int .i64 sl], 1, false⟩)) : frOK h (psL [(0, 0, false), (k, 0, false), (0, 0, false), (0, 0, false)]) 4 0 (M4A wa sl) := by
  refine ⟨fr_none h0, ⟨get_sees hk, fun ob e => ?_⟩, fr_none h0, fr_none h0, trivial⟩
  cases e
  refine .inr ⟨(fun e => by cases e), _, hk, ?_⟩
  exact ⟨⟨[], rfl⟩, (fun e => by cases e), ⟨trivial, trivial, trivial⟩, (fun e => by cases e), fun _ => Nat.one_ne_zero⟩
theorem cut_fA {c : Wb} {len d0 wa sl : Int} {W S : List Int} {n : Nat} (V : Vd c len) (C : Co c len d0 W S) (hn : usF c len = n) (hWc : ∀ i, i < usF c len → nth W i = wa) (hSc : ∀ i, i < usF c len → nth S i = sl) {h : AH} {k : Nat} (h0 : h.sees 0 = true) (hk : h.get k = some (.cells ⟨[.int .i64 wa, .int .i64 sl], 1, false⟩)) :
    Fc Try.prog 44 [sawV c len, .int .i64 d0, fB 62 k] h (.tuple #[ptV h.next (h.next + 1) (SF c len d0 W S n).length n (min c.st len) (restF c len d0 W S n), .int .i64 (laF d0 W n), .int .i64 (dF d0 W n)])
      (h.news [.cells ⟨rows eI (SF c len d0 W S n), 1, true⟩, .cells ⟨rows eI (KF c len d0 W S n), 1, true⟩]) := by
  have F := cut_cA c len d0 wa sl W S n V C hn hWc hSc
  rw [Hq_news] at F
  refine Fc.frameL (Lc := M4A wa sl) F [(0, 0, false), (k, 0, false), (0, 0, false), (0, 0, false)] rfl (frA4 h0 hk) ⟨okM_noAddr _ _ _ rfl, trivial, ⟨trivial, trivial, ⟨⟨show 1 < 4 by decide, trivial⟩, trivial⟩⟩, trivial⟩ ⟨⟨⟨show 4 < 6 by decide, trivial⟩, ⟨show 5 < 6 by decide, trivial⟩, trivial, trivial, trivial⟩, trivial, trivial, trivial⟩ (fun o ho => ?_) rfl rfl ?_
  · simp only [List.mem_cons, List.not_mem_nil, or_false] at ho
    rcases ho with rfl | rfl <;> exact okML_noAddr _ _ _ (rows_no _)
  · show h.news [.cells ⟨mwL _ (rows eI _), 1, true⟩, .cells ⟨mwL _ (rows eI _), 1, true⟩] = _
    rw [mwL_noAddr _ _ (rows_no _), mwL_noAddr _ _ (rows_no _)]
abbrev rp (n : Nat) (a : Int) : List Int := List.replicate n a
abbrev tkS (c : Wb) (len : Int) : List Int := SF c len c.dh (rp (usF c len) c.wl) (rp (usF c len) c.sh) (usF c len)
abbrev tnS (c : Wb) (len : Int) : List Int := SF c len c.dl (rp (usF c len) c.wh) (rp (usF c len) c.sl) (usF c len)
abbrev tkK (c : Wb) (len : Int) : List Int := KF c len c.dh (rp (usF c len) c.wl) (rp (usF c len) c.sh) (usF c len)
abbrev tnK (c : Wb) (len : Int) : List Int := KF c len c.dl (rp (usF c len) c.wh) (rp (usF c len) c.sl) (usF c len)
/- (boule/slice.saw).thick · slots 24 · names 0:s 1:s · results [2, 3, 4] -/
def ir17_r0 : IC := .reg [⟨some 1, none, false, .box (.t 0)⟩,
  ⟨some 2, none, false, .alloc [(.slice none 0 0), (.slice none 0 0), (.int .i64 0), (.int .i64 0)]⟩,
  ⟨some 3, none, false, .mv (.k (.int .i64 0))⟩,
  ⟨some 4, none, false, .mv (.k (.int .i64 0))⟩] (some [1, 2])
def ir17_r1 : IC := .draw [(⟨some 5, none, false, .lda 11 (.t 1)⟩, false, 0, 1),
  (⟨some 6, none, false, .fad 0 (.t 1)⟩, false, 0, 0),
  (⟨some 7, none, false, .fad 0 (.t 6)⟩, false, 2, 0),
  (⟨some 8, none, false, .fad 1 (.t 7)⟩, false, 6, 0),
  (⟨some 9, none, false, .ldc (.t 8)⟩, false, 14, 1),
  (⟨some 10, none, false, .fad 0 (.t 1)⟩, false, 0, 0),
  (⟨some 11, none, false, .fad 2 (.t 10)⟩, false, 32, 0),
  (⟨some 12, none, false, .fad 0 (.t 11)⟩, false, 96, 0),
  (⟨some 13, none, false, .ldc (.t 12)⟩, false, 224, 15),
  (⟨some 14, none, false, .fad 5 (.t 1)⟩, false, 0, 0),
  (⟨some 15, none, false, .fad 3 (.t 14)⟩, false, 512, 0),
  (⟨some 16, none, false, .fad 1 (.t 15)⟩, false, 1536, 0),
  (⟨some 17, none, false, .ldc (.t 16)⟩, false, 3584, 239),
  (⟨some 18, none, false, .bld [(.int .i64 0), (.int .i64 0)] [(0, 1, (.t 13)), (1, 1, (.t 17))]⟩, false, 8160, 0),
  (⟨some 19, none, false, .call (.f 45) [(.t 18)]⟩, false, 16352, 15),
  (⟨some 20, none, false, .call (.f 44) [(.t 5), (.t 9), (.t 19)]⟩, true, 32767, 0),
  (⟨some 21, none, false, .ext (.t 20) 0⟩, false, 65535, 0),
  (⟨some 22, none, false, .ext (.t 20) 1⟩, false, 65535, 0),
  (⟨some 23, none, false, .ext (.t 20) 2⟩, false, 65535, 0),
  (⟨none, none, false, .st 4 (.t 2) (.t 21)⟩, true, 524287, 0),
  (⟨some 3, none, false, .mv (.t 22)⟩, false, 1048575, 0),
  (⟨some 4, none, false, .mv (.t 23)⟩, false, 2097151, 0)] (some [2, 3, 4])
def ir17_1 : IC := .seq ir17_r1 .ret
def ir17_2 : IC := .seq ir17_r0 ir17_1
def ir17 : IC := ir17_2
theorem fn17 : FnIs Try.prog 17 ir17 24 [.cell 2 43, .tmp 3, .tmp 4] := ⟨Try.f17, Try.f17.body.getD .skip, Try.func17, by kernel_rfl, by kernel_rfl, by kernel_rfl, by kernel_rfl⟩
/- (boule/slice.saw).thin · slots 24 · names 0:s 1:s · results [2, 3, 4] -/
def ir18_r0 : IC := .reg [⟨some 1, none, false, .box (.t 0)⟩,
  ⟨some 2, none, false, .alloc [(.slice none 0 0), (.slice none 0 0), (.int .i64 0), (.int .i64 0)]⟩,
  ⟨some 3, none, false, .mv (.k (.int .i64 0))⟩,
  ⟨some 4, none, false, .mv (.k (.int .i64 0))⟩] (some [1, 2])
def ir18_r1 : IC := .draw [(⟨some 5, none, false, .lda 11 (.t 1)⟩, false, 0, 1),
  (⟨some 6, none, false, .fad 0 (.t 1)⟩, false, 0, 0),
  (⟨some 7, none, false, .fad 0 (.t 6)⟩, false, 2, 0),
  (⟨some 8, none, false, .fad 0 (.t 7)⟩, false, 6, 0),
  (⟨some 9, none, false, .ldc (.t 8)⟩, false, 14, 1),
  (⟨some 10, none, false, .fad 0 (.t 1)⟩, false, 0, 0),
  (⟨some 11, none, false, .fad 2 (.t 10)⟩, false, 32, 0),
  (⟨some 12, none, false, .fad 1 (.t 11)⟩, false, 96, 0),
  (⟨some 13, none, false, .ldc (.t 12)⟩, false, 224, 15),
  (⟨some 14, none, false, .fad 5 (.t 1)⟩, false, 0, 0),
  (⟨some 15, none, false, .fad 3 (.t 14)⟩, false, 512, 0),
  (⟨some 16, none, false, .fad 0 (.t 15)⟩, false, 1536, 0),
  (⟨some 17, none, false, .ldc (.t 16)⟩, false, 3584, 239),
  (⟨some 18, none, false, .bld [(.int .i64 0), (.int .i64 0)] [(0, 1, (.t 13)), (1, 1, (.t 17))]⟩, false, 8160, 0),
  (⟨some 19, none, false, .call (.f 45) [(.t 18)]⟩, false, 16352, 15),
  (⟨some 20, none, false, .call (.f 44) [(.t 5), (.t 9), (.t 19)]⟩, true, 32767, 0),
  (⟨some 21, none, false, .ext (.t 20) 0⟩, false, 65535, 0),
  (⟨some 22, none, false, .ext (.t 20) 1⟩, false, 65535, 0),
  (⟨some 23, none, false, .ext (.t 20) 2⟩, false, 65535, 0),
  (⟨none, none, false, .st 4 (.t 2) (.t 21)⟩, true, 524287, 0),
  (⟨some 3, none, false, .mv (.t 22)⟩, false, 1048575, 0),
  (⟨some 4, none, false, .mv (.t 23)⟩, false, 2097151, 0)] (some [2, 3, 4])
def ir18_1 : IC := .seq ir18_r1 .ret
def ir18_2 : IC := .seq ir18_r0 ir18_1
def ir18 : IC := ir18_2
theorem fn18 : FnIs Try.prog 18 ir18 24 [.cell 2 43, .tmp 3, .tmp 4] := ⟨Try.f18, Try.f18.body.getD .skip, Try.func18, by kernel_rfl, by kernel_rfl, by kernel_rfl, by kernel_rfl⟩
theorem thick_c (c : Wb) (len : Int) (V : Vd c len) : Fc Try.prog 17 [sawV c len] (Hp 1 [none]) (.tuple #[ptV 1 2 (tkS c len).length (usF c len) (min c.st len) (restF c len c.dh (rp (usF c len) c.wl) (rp (usF c len) c.sh) (usF c len)), .int .i64 (laF c.dh (rp (usF c len) c.wl) (usF c len)), .int .i64 (dF c.dh (rp (usF c len) c.wl) (usF c len))])
    ((Hp 1 [none]).news [.cells ⟨rows eI (tkS c len), 1, true⟩, .cells ⟨rows eI (tkK c len), 1, true⟩]) := by
  refine Fc.introR fn17 (by simp) rfl rfl ?_; simp only [argF]
  refine ITri.seq ?_
  refine ITri.reg pok ?_; simp -implicitDefEqProofs (disch := first | decide | exact of_eq_true (eq_true rfl) | omega | assumption) only [ ↓vcD, vcE, ↓vcG, vcF, evs, evP, evB, intsOf, fillC, Value.cells, pt, Value.oneCell', reduceIte, reduceCtorEq, Nat.reduceEqDiff, Nat.reduceAdd, Nat.reduceMul, Nat.reduceLT, Nat.reduceBEq, Nat.reduceLeDiff, Nat.reduceSub] -- r0
  refine ITri.seq ?_
  refine ITri.draw pok ?_; simp -implicitDefEqProofs (disch := first | decide | exact of_eq_true (eq_true rfl) | omega | assumption) only [ ↓vcD, vcE, ↓vcG, vcF, evs, evP, evB, intsOf, fillC, Value.cells, pt, Value.oneCell', reduceIte, reduceCtorEq, Nat.reduceEqDiff, Nat.reduceAdd, Nat.reduceMul, Nat.reduceLT, Nat.reduceBEq, Nat.reduceLeDiff, Nat.reduceSub] -- r1
  refine ⟨_, _, always_f _ _, ?_⟩
  try simp -implicitDefEqProofs (disch := first | decide | exact of_eq_true (eq_true rfl) | omega | assumption) only [ ↓vcD, vcE, ↓vcG, vcF, evs, evP, evB, intsOf, fillC, Value.cells, pt, Value.oneCell', reduceIte, reduceCtorEq, Nat.reduceEqDiff, Nat.reduceAdd, Nat.reduceMul, Nat.reduceLT, Nat.reduceBEq, Nat.reduceLeDiff, Nat.reduceSub]
  refine ⟨_, _, cut_fA V (thick_ok V) rfl (fun i hi => rep_nth hi) (fun i hi => rep_nth hi) (sees0 rfl (of_decide_eq_true rfl)) (get_hq rfl rfl), ?_⟩
  simp -implicitDefEqProofs (disch := first | decide | exact of_eq_true (eq_true rfl) | omega | assumption) only [news_c, news_n,  ↓vcD, vcE, ↓vcG, vcF, evs, evP, evB, intsOf, fillC, Value.cells, pt, Value.oneCell', reduceIte, reduceCtorEq, Nat.reduceEqDiff, Nat.reduceAdd, Nat.reduceMul, Nat.reduceLT, Nat.reduceBEq, Nat.reduceLeDiff, Nat.reduceSub]
  refine ITri.ret ?_
  exact end_cut (k := 4) (k2 := 5) (by decide) (by decide) (by decide) (rows_no (f := eI) _) (rows_no (f := eI) _) rfl rfl (resF_agg 4 rfl (by kernel_rfl) (by simp -implicitDefEqProofs (disch := first | decide | exact of_eq_true (eq_true rfl) | omega | assumption) only [↓vcD, vcE, ↓vcG, vcF, evs, evP, evB, intsOf, fillC, Value.cells, pt, Value.oneCell', reduceIte, reduceCtorEq, Nat.reduceEqDiff, Nat.reduceAdd, Nat.reduceMul, Nat.reduceLT, Nat.reduceBEq, Nat.reduceLeDiff, Nat.reduceSub]) (resF_tmp rfl (resF_tmp rfl resF_nil)))
theorem thin_c (c : Wb) (len : Int) (V : Vd c len) : Fc Try.prog 18 [sawV c len] (Hp 1 [none]) (.tuple #[ptV 1 2 (tnS c len).length (usF c len) (min c.st len) (restF c len c.dl (rp (usF c len) c.wh) (rp (usF c len) c.sl) (usF c len)), .int .i64 (laF c.dl (rp (usF c len) c.wh) (usF c len)), .int .i64 (dF c.dl (rp (usF c len) c.wh) (usF c len))])
    ((Hp 1 [none]).news [.cells ⟨rows eI (tnS c len), 1, true⟩, .cells ⟨rows eI (tnK c len), 1, true⟩]) := by
  refine Fc.introR fn18 (by simp) rfl rfl ?_; simp only [argF]
  refine ITri.seq ?_
  refine ITri.reg pok ?_; simp -implicitDefEqProofs (disch := first | decide | exact of_eq_true (eq_true rfl) | omega | assumption) only [ ↓vcD, vcE, ↓vcG, vcF, evs, evP, evB, intsOf, fillC, Value.cells, pt, Value.oneCell', reduceIte, reduceCtorEq, Nat.reduceEqDiff, Nat.reduceAdd, Nat.reduceMul, Nat.reduceLT, Nat.reduceBEq, Nat.reduceLeDiff, Nat.reduceSub] -- r0
  refine ITri.seq ?_
  refine ITri.draw pok ?_; simp -implicitDefEqProofs (disch := first | decide | exact of_eq_true (eq_true rfl) | omega | assumption) only [ ↓vcD, vcE, ↓vcG, vcF, evs, evP, evB, intsOf, fillC, Value.cells, pt, Value.oneCell', reduceIte, reduceCtorEq, Nat.reduceEqDiff, Nat.reduceAdd, Nat.reduceMul, Nat.reduceLT, Nat.reduceBEq, Nat.reduceLeDiff, Nat.reduceSub] -- r1
  refine ⟨_, _, always_f _ _, ?_⟩
  try simp -implicitDefEqProofs (disch := first | decide | exact of_eq_true (eq_true rfl) | omega | assumption) only [ ↓vcD, vcE, ↓vcG, vcF, evs, evP, evB, intsOf, fillC, Value.cells, pt, Value.oneCell', reduceIte, reduceCtorEq, Nat.reduceEqDiff, Nat.reduceAdd, Nat.reduceMul, Nat.reduceLT, Nat.reduceBEq, Nat.reduceLeDiff, Nat.reduceSub]
  refine ⟨_, _, cut_fA V (thin_ok V) rfl (fun i hi => rep_nth hi) (fun i hi => rep_nth hi) (sees0 rfl (of_decide_eq_true rfl)) (get_hq rfl rfl), ?_⟩
  simp -implicitDefEqProofs (disch := first | decide | exact of_eq_true (eq_true rfl) | omega | assumption) only [news_c, news_n,  ↓vcD, vcE, ↓vcG, vcF, evs, evP, evB, intsOf, fillC, Value.cells, pt, Value.oneCell', reduceIte, reduceCtorEq, Nat.reduceEqDiff, Nat.reduceAdd, Nat.reduceMul, Nat.reduceLT, Nat.reduceBEq, Nat.reduceLeDiff, Nat.reduceSub]
  refine ITri.ret ?_
  exact end_cut (k := 4) (k2 := 5) (by decide) (by decide) (by decide) (rows_no (f := eI) _) (rows_no (f := eI) _) rfl rfl (resF_agg 4 rfl (by kernel_rfl) (by simp -implicitDefEqProofs (disch := first | decide | exact of_eq_true (eq_true rfl) | omega | assumption) only [↓vcD, vcE, ↓vcG, vcF, evs, evP, evB, intsOf, fillC, Value.cells, pt, Value.oneCell', reduceIte, reduceCtorEq, Nat.reduceEqDiff, Nat.reduceAdd, Nat.reduceMul, Nat.reduceLT, Nat.reduceBEq, Nat.reduceLeDiff, Nat.reduceSub]) (resF_tmp rfl (resF_tmp rfl resF_nil)))
end Go.Proofs.Ytjfgbdmdnejhdaa
