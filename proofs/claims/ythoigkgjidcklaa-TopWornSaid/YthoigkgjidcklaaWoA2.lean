/-
  Chapter 11, Aged, by names: the functions on lists, the sums of wear.
-/
import Derived.Test.YthoigkgjidcklaaWoA1
set_option linter.unusedSimpArgs false
set_option linter.unusedVariables false
namespace Go.Proofs.Ythoigkgjidcklaa
open Go.RowKit Go.Vm
set_option maxRecDepth 100000
/- boule/shop.Aged$1 · slots 18 · names 0:r 1:r · results [2] -/
def ir55_r0 : IC := .reg [⟨some 1, none, false, .box (.t 0)⟩,
  ⟨some 2, none, false, .mv (.k (.bool false))⟩] (some [1])
def ir55_r1 : IC := .reg [⟨some 3, none, false, .fad 0 (.t 1)⟩,
  ⟨some 4, none, false, .ldc (.t 3)⟩,
  ⟨some 5, none, false, .cmp .lss (.t 4) (.k (.int .i64 0))⟩,
  ⟨some 6, none, false, .mv (.t 5)⟩,
  ⟨some 7, some (6, false), false, .fad 0 (.t 1)⟩,
  ⟨some 8, some (6, false), false, .ldc (.t 7)⟩,
  ⟨some 9, some (6, false), false, .fad 1 (.t 1)⟩,
  ⟨some 10, some (6, false), false, .ldc (.t 9)⟩,
  ⟨some 11, some (6, false), false, .cmp .gtr (.t 8) (.t 10)⟩,
  ⟨some 12, none, false, .pick (.t 6) (.k (.bool true)) (.t 11)⟩,
  ⟨some 13, none, false, .mv (.t 12)⟩,
  ⟨some 14, some (13, false), false, .fad 1 (.t 1)⟩,
  ⟨some 15, some (13, false), false, .ldc (.t 14)⟩,
  ⟨some 16, some (13, false), false, .cmp .gtr (.t 15) (.k (.int .i64 1000000))⟩,
  ⟨some 17, none, false, .pick (.t 13) (.k (.bool true)) (.t 16)⟩,
  ⟨some 2, none, false, .mv (.t 17)⟩] (some [2])
def ir55_1 : IC := .seq ir55_r1 .ret
def ir55_2 : IC := .seq ir55_r0 ir55_1
def ir55 : IC := ir55_2
theorem fn55 : FnIs Try.prog 55 ir55 18 [.tmp 2] := ⟨Try.f55, Try.f55.body.getD .skip, Try.func55, by kernel_rfl, by kernel_rfl, by kernel_rfl, by kernel_rfl⟩
/- slices.ContainsFunc[[]boule/api.Range,boule/api.Range] · slots 9 · names 0:s 1:f 2:s 3:f · results [4] -/
def ir54_r0 : IC := .reg [⟨some 4, none, false, .mv (.k (.bool false))⟩] (some [0, 1])
def ir54_r1 : IC := .reg [⟨some 5, none, false, .mv (.t 0)⟩,
  ⟨some 6, none, false, .mv (.t 1)⟩,
  ⟨some 7, none, false, .call (.f 98) [(.t 5), (.t 6)]⟩,
  ⟨some 8, none, false, .cmp .geq (.t 7) (.k (.int .i64 0))⟩,
  ⟨some 4, none, false, .mv (.t 8)⟩] (some [4])
def ir54_1 : IC := .seq ir54_r1 .ret
def ir54_2 : IC := .seq ir54_r0 ir54_1
def ir54 : IC := ir54_2
theorem fn54 : FnIs Try.prog 54 ir54 9 [.tmp 4] := ⟨Try.f54, Try.f54.body.getD .skip, Try.func54, by kernel_rfl, by kernel_rfl, by kernel_rfl, by kernel_rfl⟩
/- boule/shop.Aged$2 · slots 10 · names 0:k 2:k · results [3] -/
def ir57_r0 : IC := .reg [⟨some 3, none, false, .mv (.k (.bool false))⟩] (some [0, 1])
def ir57_r1 : IC := .reg [⟨some 4, none, false, .mv (.t 0)⟩,
  ⟨some 5, none, false, .ldc (.t 1)⟩,
  ⟨some 6, none, false, .len (.t 5)⟩,
  ⟨some 7, none, false, .ar .sub (.t 6) (.k (.int .i64 1))⟩,
  ⟨some 8, none, false, .call (.f 29) [(.t 4), (.k (.int .i64 0)), (.t 7)]⟩,
  ⟨some 9, none, false, .not (.t 8)⟩,
  ⟨some 3, none, false, .mv (.t 9)⟩] (some [3])
def ir57_1 : IC := .seq ir57_r1 .ret
def ir57_2 : IC := .seq ir57_r0 ir57_1
def ir57 : IC := ir57_2
theorem fn57 : FnIs Try.prog 57 ir57 10 [.tmp 3] := ⟨Try.f57, Try.f57.body.getD .skip, Try.func57, by kernel_rfl, by kernel_rfl, by kernel_rfl, by kernel_rfl⟩
/- slices.ContainsFunc[[]int,int] · slots 9 · names 0:s 1:f 2:s 3:f · results [4] -/
def ir56_r0 : IC := .reg [⟨some 4, none, false, .mv (.k (.bool false))⟩] (some [0, 1])
def ir56_r1 : IC := .reg [⟨some 5, none, false, .mv (.t 0)⟩,
  ⟨some 6, none, false, .mv (.t 1)⟩,
  ⟨some 7, none, false, .call (.f 59) [(.t 5), (.t 6)]⟩,
  ⟨some 8, none, false, .cmp .geq (.t 7) (.k (.int .i64 0))⟩,
  ⟨some 4, none, false, .mv (.t 8)⟩] (some [4])
def ir56_1 : IC := .seq ir56_r1 .ret
def ir56_2 : IC := .seq ir56_r0 ir56_1
def ir56 : IC := ir56_2
theorem fn56 : FnIs Try.prog 56 ir56 9 [.tmp 4] := ⟨Try.f56, Try.f56.body.getD .skip, Try.func56, by kernel_rfl, by kernel_rfl, by kernel_rfl, by kernel_rfl⟩
/- boule/shop.Aged$4 · slots 5 · names 0:r 1:r · results [2] -/
def ir61_r0 : IC := .reg [⟨some 1, none, false, .box (.t 0)⟩,
  ⟨some 2, none, false, .mv (.k (.int .i64 0))⟩] (some [1])
def ir61_r1 : IC := .reg [⟨some 3, none, false, .fad 1 (.t 1)⟩,
  ⟨some 4, none, false, .ldc (.t 3)⟩,
  ⟨some 2, none, false, .mv (.t 4)⟩] (some [2])
def ir61_1 : IC := .seq ir61_r1 .ret
def ir61_2 : IC := .seq ir61_r0 ir61_1
def ir61 : IC := ir61_2
theorem fn61 : FnIs Try.prog 61 ir61 5 [.tmp 2] := ⟨Try.f61, Try.f61.body.getD .skip, Try.func61, by kernel_rfl, by kernel_rfl, by kernel_rfl, by kernel_rfl⟩
/- boule/shop.Aged$5 · slots 5 · names 0:r 1:r · results [2] -/
def ir62_r0 : IC := .reg [⟨some 1, none, false, .box (.t 0)⟩,
  ⟨some 2, none, false, .mv (.k (.int .i64 0))⟩] (some [1])
def ir62_r1 : IC := .reg [⟨some 3, none, false, .fad 0 (.t 1)⟩,
  ⟨some 4, none, false, .ldc (.t 3)⟩,
  ⟨some 2, none, false, .mv (.t 4)⟩] (some [2])
def ir62_1 : IC := .seq ir62_r1 .ret
def ir62_2 : IC := .seq ir62_r0 ir62_1
def ir62 : IC := ir62_2
theorem fn62 : FnIs Try.prog 62 ir62 5 [.tmp 2] := ⟨Try.f62, Try.f62.body.getD .skip, Try.func62, by kernel_rfl, by kernel_rfl, by kernel_rfl, by kernel_rfl⟩
/- boule/shop.Aged$3$1 · slots 16 · names 0:k 4:k · results [5] -/
def ir60_r0 : IC := .reg [⟨some 5, none, false, .mv (.k (.bool false))⟩] (some [0, 1, 2, 3])
def ir60_r1 : IC := .draw [(⟨some 6, none, false, .ldc (.t 1)⟩, false, 0, 1),
  (⟨some 7, none, false, .ldc (.t 2)⟩, false, 0, 1),
  (⟨some 8, none, false, .ldc (.t 3)⟩, false, 0, 1),
  (⟨some 9, none, false, .mv (.t 0)⟩, false, 0, 0),
  (⟨some 10, none, false, .iad 2 (.t 8) (.t 9)⟩, false, 12, 0),
  (⟨some 11, none, false, .lda 2 (.t 10)⟩, false, 28, 1),
  (⟨some 12, none, false, .call (.t 7) [(.t 11)]⟩, false, 62, 1),
  (⟨some 13, none, false, .ar .sub (.t 6) (.t 12)⟩, false, 127, 0),
  (⟨none, none, false, .st 1 (.t 1) (.t 13)⟩, true, 255, 0)] (some [1])
def ir60_r2 : IC := .reg [⟨some 14, none, false, .ldc (.t 1)⟩,
  ⟨some 15, none, false, .cmp .lss (.t 14) (.k (.int .i64 0))⟩,
  ⟨some 5, none, false, .mv (.t 15)⟩] (some [5])
def ir60_1 : IC := .seq ir60_r2 .ret
def ir60_2 : IC := .seq ir60_r1 ir60_1
def ir60_3 : IC := .seq ir60_r0 ir60_2
def ir60 : IC := ir60_3
theorem fn60 : FnIs Try.prog 60 ir60 16 [.tmp 5] := ⟨Try.f60, Try.f60.body.getD .skip, Try.func60, by kernel_rfl, by kernel_rfl, by kernel_rfl, by kernel_rfl⟩
/- boule/shop.Aged$3 · slots 11 · names 0:of 4:of 6:left · results [5] -/
def ir58_r0 : IC := .reg [⟨some 4, none, false, .box (.t 0)⟩,
  ⟨some 5, none, false, .mv (.k (.int .i64 0))⟩] (some [1, 2, 3, 4])
def ir58_r1 : IC := .reg [⟨some 7, none, false, .ldc (.t 1)⟩,
  ⟨some 6, none, false, .alloc [(.int .i64 0)]⟩,
  ⟨none, none, false, .st 1 (.t 6) (.t 7)⟩] (some [2, 3, 4, 6])
def ir58_r2 : IC := .reg [⟨some 8, none, false, .ldc (.t 2)⟩,
  ⟨some 9, none, false, .mkf 60 [] [(.t 6), (.t 4), (.t 3)]⟩,
  ⟨some 10, none, false, .call (.f 59) [(.t 8), (.t 9)]⟩,
  ⟨some 5, none, false, .mv (.t 10)⟩] (some [5])
def ir58_1 : IC := .seq ir58_r2 .ret
def ir58_2 : IC := .seq ir58_r1 ir58_1
def ir58_3 : IC := .seq ir58_r0 ir58_2
def ir58 : IC := ir58_3
theorem fn58 : FnIs Try.prog 58 ir58 11 [.tmp 5] := ⟨Try.f58, Try.f58.body.getD .skip, Try.func58, by kernel_rfl, by kernel_rfl, by kernel_rfl, by kernel_rfl⟩
def badR (r : Rg) : Bool := decide (r.1 < 0) || decide (r.2 < r.1) || decide (1000000 < r.2)
theorem badR_no {r : Rg} (h : badR r = false) : 0 ≤ r.1 ∧ r.1 ≤ r.2 ∧ r.2 ≤ 1000000 := by
  unfold badR at h
  simp only [Bool.or_eq_false_iff, decide_eq_false_iff_not] at h
  omega
theorem bad_f (r : Rg) {h : AH} (hs : h.sees 0 = true) : Fc Try.prog 55 [rV r] h (.bool (badR r)) h := by
  refine Fc.lift0 ?_ rfl rfl hs
  obtain ⟨a, b⟩ := r
  refine Fc.intro0 fn55 (by simp) rfl rfl ?_; simp only [argF]
  refine ITri.seq ?_
  refine ITri.reg pokT ?_; simp -implicitDefEqProofs (disch := first | decide | exact of_eq_true (eq_true rfl) | omega | assumption) only [ ↓vcD, vcE, ↓vcG, vcF, evs, evP, evB, intsOf, fillC, Value.cells, pt, Value.oneCell', reduceIte, reduceCtorEq, Nat.reduceEqDiff, Nat.reduceAdd, Nat.reduceMul, Nat.reduceLT, Nat.reduceBEq, Nat.reduceLeDiff, Nat.reduceSub]
  refine ITri.seq ?_
  by_cases g1 : a < 0
  · refine ITri.reg pokT ?_; simp -implicitDefEqProofs (disch := first | decide | exact of_eq_true (eq_true rfl) | omega | assumption) only [g1, decide_true,  ↓vcD, vcE, ↓vcG, vcF, evs, evP, evB, intsOf, fillC, Value.cells, pt, Value.oneCell', reduceIte, reduceCtorEq, Nat.reduceEqDiff, Nat.reduceAdd, Nat.reduceMul, Nat.reduceLT, Nat.reduceBEq, Nat.reduceLeDiff, Nat.reduceSub]
    refine ITri.ret ?_; exact EndR.plain (by simp) (by rfl) (by unfold badR; rw [decide_eq_true (show (a, b).1 < 0 from g1)]; rfl) (by rfl)
  by_cases g2 : b < a
  · refine ITri.reg pokT ?_; simp -implicitDefEqProofs (disch := first | decide | exact of_eq_true (eq_true rfl) | omega | assumption) only [g1, g2, decide_true, decide_false,  ↓vcD, vcE, ↓vcG, vcF, evs, evP, evB, intsOf, fillC, Value.cells, pt, Value.oneCell', reduceIte, reduceCtorEq, Nat.reduceEqDiff, Nat.reduceAdd, Nat.reduceMul, Nat.reduceLT, Nat.reduceBEq, Nat.reduceLeDiff, Nat.reduceSub]
    refine ITri.ret ?_; exact EndR.plain (by simp) (by rfl) (by unfold badR; rw [decide_eq_false (show ¬ (a, b).1 < 0 from g1), decide_eq_true (show (a, b).2 < (a, b).1 from g2)]; rfl) (by rfl)
  · refine ITri.reg pokT ?_; simp -implicitDefEqProofs (disch := first | decide | exact of_eq_true (eq_true rfl) | omega | assumption) only [g1, g2, decide_true, decide_false,  ↓vcD, vcE, ↓vcG, vcF, evs, evP, evB, intsOf, fillC, Value.cells, pt, Value.oneCell', reduceIte, reduceCtorEq, Nat.reduceEqDiff, Nat.reduceAdd, Nat.reduceMul, Nat.reduceLT, Nat.reduceBEq, Nat.reduceLeDiff, Nat.reduceSub]
    refine ITri.ret ?_; exact EndR.plain (by simp) (by rfl) (by unfold badR; rw [decide_eq_false (show ¬ (a, b).1 < 0 from g1), decide_eq_false (show ¬ (a, b).2 < (a, b).1 from g2)]; rfl) (by rfl)
theorem containsR_x {wl ks c n sz : Nat} {op : Bool} {xs : List Rg} (L : List (Option AObj)) (hx : xs.length = n) (hb : n ≤ 1000000) (h0 : 0 < L.length) (hH : (L[ks]?).join = some (.cells ⟨rows eR xs, sz, op⟩)) :
    Fc Try.prog 54 [.slice (some ⟨ks, 0, none⟩) n c, .func (.func 55) #[] #[]] (Hp wl L) (.bool (xs.any badR)) (Hp wl L) := by
  have hI := indexR_x (wl := wl) (c := c) (g := 55) (caps := []) L (fun k => badR (nth xs k)) hx hb hH (fun k hk => bad_f _ (sees0 rfl h0))
  subst hx
  refine Fc.introX fn54 (by simp) (fun _ => Grow.refl _) ?_
  simp only [argF]
  refine ITri.seq ?_
  refine ITri.reg pokT ?_; simp -implicitDefEqProofs (disch := first | decide | exact of_eq_true (eq_true rfl) | omega | assumption) only [ ↓vcD, vcE, ↓vcG, vcF, evs, evP, evB, intsOf, fillC, Value.cells, pt, Value.oneCell', reduceIte, reduceCtorEq, Nat.reduceEqDiff, Nat.reduceAdd, Nat.reduceMul, Nat.reduceLT, Nat.reduceBEq, Nat.reduceLeDiff, Nat.reduceSub]
  refine ITri.seq ?_
  refine ITri.reg pokT ?_; simp -implicitDefEqProofs (disch := first | decide | exact of_eq_true (eq_true rfl) | omega | assumption) only [ ↓vcD, vcE, ↓vcG, vcF, evs, evP, evB, intsOf, fillC, Value.cells, pt, Value.oneCell', reduceIte, reduceCtorEq, Nat.reduceEqDiff, Nat.reduceAdd, Nat.reduceMul, Nat.reduceLT, Nat.reduceBEq, Nat.reduceLeDiff, Nat.reduceSub]
  refine ⟨_, _, hI, ?_⟩
  try simp -implicitDefEqProofs (disch := first | decide | exact of_eq_true (eq_true rfl) | omega | assumption) only [ ↓vcD, vcE, ↓vcG, vcF, evs, evP, evB, intsOf, fillC, Value.cells, pt, Value.oneCell', reduceIte, reduceCtorEq, Nat.reduceEqDiff, Nat.reduceAdd, Nat.reduceMul, Nat.reduceLT, Nat.reduceBEq, Nat.reduceLeDiff, Nat.reduceSub]
  refine ITri.ret ?_; exact EndX.mk (by simp) (by rfl) (by rw [ov_any]; rfl) (by rfl)
/-- Aged's memory. -/
abbrev ag6 (nw cw nr cr : Nat) (life : Int) (wear : List Rg) (runs : List Int) : List (Option AObj) := [none, some (.cells ⟨rows eR wear, 0, false⟩), some (.cells ⟨rows eN runs, 0, false⟩), some (.cells ⟨[.int .i64 life], 1, false⟩), some (.cells ⟨[.slice (some ⟨1, 0, none⟩) nw cw], 1, false⟩), some (.cells ⟨[.slice (some ⟨2, 0, none⟩) nr cr], 1, false⟩)]
theorem out_x (nw cw nr cr : Nat) (life : Int) (wear : List Rg) (runs : List Int) (k : Int) (hb : nw ≤ 1000000) : Fc Try.prog 57 [.int .i64 k, pt 4] (Hp 3 (ag6 nw cw nr cr life wear runs)) (.bool (!inT k 0 (nw - 1))) (Hp 3 (ag6 nw cw nr cr life wear runs)) := by
  refine Fc.introX fn57 (by simp) (fun _ => Grow.refl _) ?_
  simp only [argF]
  refine ITri.seq ?_
  refine ITri.reg pokT ?_; simp -implicitDefEqProofs (disch := first | decide | exact of_eq_true (eq_true rfl) | omega | assumption) only [ ↓vcD, vcE, ↓vcG, vcF, evs, evP, evB, intsOf, fillC, Value.cells, pt, Value.oneCell', reduceIte, reduceCtorEq, Nat.reduceEqDiff, Nat.reduceAdd, Nat.reduceMul, Nat.reduceLT, Nat.reduceBEq, Nat.reduceLeDiff, Nat.reduceSub]
  refine ITri.seq ?_
  refine ITri.reg pokT ?_; simp -implicitDefEqProofs (disch := first | decide | exact of_eq_true (eq_true rfl) | omega | assumption) only [ ↓vcD, vcE, ↓vcG, vcF, evs, evP, evB, intsOf, fillC, Value.cells, pt, Value.oneCell', reduceIte, reduceCtorEq, Nat.reduceEqDiff, Nat.reduceAdd, Nat.reduceMul, Nat.reduceLT, Nat.reduceBEq, Nat.reduceLeDiff, Nat.reduceSub]
  refine ⟨_, _, in_f _ _ _ (sees0 rfl (of_decide_eq_true rfl)), ?_⟩
  try simp -implicitDefEqProofs (disch := first | decide | exact of_eq_true (eq_true rfl) | omega | assumption) only [ ↓vcD, vcE, ↓vcG, vcF, evs, evP, evB, intsOf, fillC, Value.cells, pt, Value.oneCell', reduceIte, reduceCtorEq, Nat.reduceEqDiff, Nat.reduceAdd, Nat.reduceMul, Nat.reduceLT, Nat.reduceBEq, Nat.reduceLeDiff, Nat.reduceSub]
  refine ITri.ret ?_; exact EndX.mk (by simp) (by rfl) (by rfl) (by rfl)
theorem containsI_x (nw cw nr cr : Nat) (life : Int) (wear : List Rg) (runs : List Int) (hr : runs.length = nr) (hb : nw ≤ 1000000) (hb2 : nr ≤ 1000000) :
    Fc Try.prog 56 [.slice (some ⟨2, 0, none⟩) nr cr, .func (.func 57) #[] #[pt 4]] (Hp 3 (ag6 nw cw nr cr life wear runs)) (.bool (runs.any fun k => !inT k 0 (nw - 1))) (Hp 3 (ag6 nw cw nr cr life wear runs)) := by
  have hI := indexI_x (wl := 3) (ks := 2) (c := cr) (g := 57) (sz := 0) (op := false) (caps := [pt 4]) (fun _ => ag6 nw cw nr cr life wear runs) (fun k => !inT (nth runs k) 0 (nw - 1)) hr hb2 (fun k hk => rfl) (fun k hk => ⟨Nat.le_refl _, rfl⟩) (fun k hk => out_x nw cw nr cr life wear runs _ hb)
  subst hr
  refine Fc.introX fn56 (by simp) (fun _ => Grow.refl _) ?_
  simp only [argF]
  refine ITri.seq ?_
  refine ITri.reg pokT ?_; simp -implicitDefEqProofs (disch := first | decide | exact of_eq_true (eq_true rfl) | omega | assumption) only [ ↓vcD, vcE, ↓vcG, vcF, evs, evP, evB, intsOf, fillC, Value.cells, pt, Value.oneCell', reduceIte, reduceCtorEq, Nat.reduceEqDiff, Nat.reduceAdd, Nat.reduceMul, Nat.reduceLT, Nat.reduceBEq, Nat.reduceLeDiff, Nat.reduceSub]
  refine ITri.seq ?_
  refine ITri.reg pokT ?_; simp -implicitDefEqProofs (disch := first | decide | exact of_eq_true (eq_true rfl) | omega | assumption) only [ ↓vcD, vcE, ↓vcG, vcF, evs, evP, evB, intsOf, fillC, Value.cells, pt, Value.oneCell', reduceIte, reduceCtorEq, Nat.reduceEqDiff, Nat.reduceAdd, Nat.reduceMul, Nat.reduceLT, Nat.reduceBEq, Nat.reduceLeDiff, Nat.reduceSub]
  refine ⟨_, _, hI, ?_⟩
  try simp -implicitDefEqProofs (disch := first | decide | exact of_eq_true (eq_true rfl) | omega | assumption) only [ ↓vcD, vcE, ↓vcG, vcF, evs, evP, evB, intsOf, fillC, Value.cells, pt, Value.oneCell', reduceIte, reduceCtorEq, Nat.reduceEqDiff, Nat.reduceAdd, Nat.reduceMul, Nat.reduceLT, Nat.reduceBEq, Nat.reduceLeDiff, Nat.reduceSub]
  refine ITri.ret ?_; exact EndX.mk (by simp) (by rfl) (by rw [ov_any (f := fun k => !inT k 0 ((nw : Int) - 1))]; rfl) (by rfl)
theorem high_f (r : Rg) {h : AH} (hs : h.sees 0 = true) : Fc Try.prog 61 [rV r] h (.int .i64 r.2) h := by
  refine Fc.lift0 ?_ rfl rfl hs
  refine Fc.intro0 fn61 (by simp) rfl rfl ?_; simp only [argF]
  refine ITri.seq ?_
  refine ITri.reg pokT ?_; simp -implicitDefEqProofs (disch := first | decide | exact of_eq_true (eq_true rfl) | omega | assumption) only [ ↓vcD, vcE, ↓vcG, vcF, evs, evP, evB, intsOf, fillC, Value.cells, pt, Value.oneCell', reduceIte, reduceCtorEq, Nat.reduceEqDiff, Nat.reduceAdd, Nat.reduceMul, Nat.reduceLT, Nat.reduceBEq, Nat.reduceLeDiff, Nat.reduceSub]
  refine ITri.seq ?_
  refine ITri.reg pokT ?_; simp -implicitDefEqProofs (disch := first | decide | exact of_eq_true (eq_true rfl) | omega | assumption) only [ ↓vcD, vcE, ↓vcG, vcF, evs, evP, evB, intsOf, fillC, Value.cells, pt, Value.oneCell', reduceIte, reduceCtorEq, Nat.reduceEqDiff, Nat.reduceAdd, Nat.reduceMul, Nat.reduceLT, Nat.reduceBEq, Nat.reduceLeDiff, Nat.reduceSub]
  refine ITri.ret ?_; exact EndR.plain (by simp) (by rfl) (by rfl) (by rfl)
theorem low_f (r : Rg) {h : AH} (hs : h.sees 0 = true) : Fc Try.prog 62 [rV r] h (.int .i64 r.1) h := by
  refine Fc.lift0 ?_ rfl rfl hs
  refine Fc.intro0 fn62 (by simp) rfl rfl ?_; simp only [argF]
  refine ITri.seq ?_
  refine ITri.reg pokT ?_; simp -implicitDefEqProofs (disch := first | decide | exact of_eq_true (eq_true rfl) | omega | assumption) only [ ↓vcD, vcE, ↓vcG, vcF, evs, evP, evB, intsOf, fillC, Value.cells, pt, Value.oneCell', reduceIte, reduceCtorEq, Nat.reduceEqDiff, Nat.reduceAdd, Nat.reduceMul, Nat.reduceLT, Nat.reduceBEq, Nat.reduceLeDiff, Nat.reduceSub]
  refine ITri.seq ?_
  refine ITri.reg pokT ?_; simp -implicitDefEqProofs (disch := first | decide | exact of_eq_true (eq_true rfl) | omega | assumption) only [ ↓vcD, vcE, ↓vcG, vcF, evs, evP, evB, intsOf, fillC, Value.cells, pt, Value.oneCell', reduceIte, reduceCtorEq, Nat.reduceEqDiff, Nat.reduceAdd, Nat.reduceMul, Nat.reduceLT, Nat.reduceBEq, Nat.reduceLeDiff, Nat.reduceSub]
  refine ITri.ret ?_; exact EndR.plain (by simp) (by rfl) (by rfl) (by rfl)
/-- What the first runs wear. -/
def sW (g : Rg → Int) (wear : List Rg) (runs : List Int) : Nat → Int
  | 0 => 0
  | k + 1 => sW g wear runs k + g (nth wear (nth runs k).toNat)
theorem sW_bd {g : Rg → Int} {wear : List Rg} {runs : List Int} (hg : ∀ r ∈ wear, 0 ≤ g r ∧ g r ≤ 1000000) (hr : ∀ k ∈ runs, 0 ≤ k ∧ k < wear.length) : ∀ n, n ≤ runs.length → 0 ≤ sW g wear runs n ∧ sW g wear runs n ≤ n * 1000000
  | 0, _ => by simp [sW]
  | n + 1, hn => by
    have ih := sW_bd hg hr n (by omega)
    have h1 := hr _ (nth_mem (show n < runs.length by omega))
    have h2 := hg _ (nth_mem (show (nth runs n).toNat < wear.length by omega))
    rw [sW]
    omega
abbrev ag8 (nw cw nr cr : Nat) (life : Int) (wear : List Rg) (runs : List Int) (f : Nat) (x : Int) : List (Option AObj) := ag6 nw cw nr cr life wear runs ++ [some (.cells ⟨[.func (.func f) #[] #[]], 1, false⟩), some (.cells ⟨[.int .i64 x], 1, false⟩)]
theorem less_x (nw cw nr cr : Nat) (life : Int) (wear : List Rg) (runs : List Int) (f : Nat) (x k : Int) (g : Rg → Int) (hw : wear.length = nw) (hk : 0 ≤ k ∧ k < nw) (hx : -1000000000000 ≤ x ∧ x ≤ 1000000000000) (hg : 0 ≤ g (nth wear k.toNat) ∧ g (nth wear k.toNat) ≤ 1000000)
    (F : ∀ (r : Rg) {h : AH}, h.sees 0 = true → Fc Try.prog f [rV r] h (.int .i64 (g r)) h) :
    Fc Try.prog 60 [.int .i64 k, pt 7, pt 6, pt 4] (Hp 6 (ag8 nw cw nr cr life wear runs f x)) (.bool (decide (x - g (nth wear k.toNat) < 0))) (Hp 6 (ag8 nw cw nr cr life wear runs f (x - g (nth wear k.toNat)))) := by
  refine Fc.introX fn60 (by simp) (fun _ => grow_hq (Nat.le_refl _) rfl) ?_
  simp only [argF]
  have ht : takeC (rows eR wear) (k.toNat * 2) 2 = some (eR (nth wear k.toNat)) := takeR (by omega)
  have hk0 := hk.1
  have hk1 := hk.2
  refine ITri.seq ?_
  refine ITri.reg pokT ?_; simp -implicitDefEqProofs (disch := first | decide | exact of_eq_true (eq_true rfl) | omega | assumption) only [ ↓vcD, vcE, ↓vcG, vcF, evs, evP, evB, intsOf, fillC, Value.cells, pt, Value.oneCell', reduceIte, reduceCtorEq, Nat.reduceEqDiff, Nat.reduceAdd, Nat.reduceMul, Nat.reduceLT, Nat.reduceBEq, Nat.reduceLeDiff, Nat.reduceSub]
  refine ITri.seq ?_
  refine ITri.draw pokT ?_; simp -implicitDefEqProofs (disch := first | decide | exact of_eq_true (eq_true rfl) | omega | assumption) only [ht,  ↓vcD, vcE, ↓vcG, vcF, evs, evP, evB, intsOf, fillC, Value.cells, pt, Value.oneCell', reduceIte, reduceCtorEq, Nat.reduceEqDiff, Nat.reduceAdd, Nat.reduceMul, Nat.reduceLT, Nat.reduceBEq, Nat.reduceLeDiff, Nat.reduceSub]
  refine ⟨_, _, F (nth wear k.toNat) (sees0 rfl (of_decide_eq_true rfl)), ?_⟩
  try simp -implicitDefEqProofs (disch := first | decide | exact of_eq_true (eq_true rfl) | omega | assumption) only [ ↓vcD, vcE, ↓vcG, vcF, evs, evP, evB, intsOf, fillC, Value.cells, pt, Value.oneCell', reduceIte, reduceCtorEq, Nat.reduceEqDiff, Nat.reduceAdd, Nat.reduceMul, Nat.reduceLT, Nat.reduceBEq, Nat.reduceLeDiff, Nat.reduceSub]
  refine ITri.seq ?_
  refine ITri.reg pokT ?_; simp -implicitDefEqProofs (disch := first | decide | exact of_eq_true (eq_true rfl) | omega | assumption) only [ ↓vcD, vcE, ↓vcG, vcF, evs, evP, evB, intsOf, fillC, Value.cells, pt, Value.oneCell', reduceIte, reduceCtorEq, Nat.reduceEqDiff, Nat.reduceAdd, Nat.reduceMul, Nat.reduceLT, Nat.reduceBEq, Nat.reduceLeDiff, Nat.reduceSub]
  refine ITri.ret ?_; exact EndX.mk (by simp) (by rfl) (by rfl) (by rfl)
theorem first_c (nw cw nr cr : Nat) (life : Int) (wear : List Rg) (runs : List Int) (f : Nat) (g : Rg → Int) (hw : wear.length = nw) (hr : runs.length = nr) (hb : nr ≤ 500) (hl : 0 ≤ life ∧ life ≤ 1000000) (hg : ∀ r ∈ wear, 0 ≤ g r ∧ g r ≤ 1000000) (hk : ∀ k ∈ runs, 0 ≤ k ∧ k < nw)
    (F : ∀ (r : Rg) {h : AH}, h.sees 0 = true → Fc Try.prog f [rV r] h (.int .i64 (g r)) h) :
    Fc Try.prog 58 [.func (.func f) #[] #[], pt 3, pt 5, pt 4] (Hp 6 (ag6 nw cw nr cr life wear runs)) (.int .i64 (ovI (fun k => decide (life - sW g wear runs (k + 1) < 0)) nr)) (Hp 6 (ag6 nw cw nr cr life wear runs)) := by
  have hsb := sW_bd hg (by rw [hw]; exact hk)
  have hI := indexI_x (wl := 6) (ks := 2) (c := cr) (g := 60) (sz := 0) (op := false) (caps := [pt 7, pt 6, pt 4]) (fun k => ag8 nw cw nr cr life wear runs f (life - sW g wear runs k)) (fun k => decide (life - sW g wear runs (k + 1) < 0)) hr (by omega) (fun k hk => rfl) (fun k hk => ⟨Nat.le_refl _, rfl⟩) (fun k hk2 => by
    have h1 := hk _ (nth_mem (show k < runs.length by omega))
    have h2 := hsb k (by omega)
    have := less_x nw cw nr cr life wear runs f (life - sW g wear runs k) (nth runs k) g hw h1 (by omega) (hg _ (nth_mem (by omega))) F
    rw [sW]
    rw [show life - (sW g wear runs k + g (nth wear (nth runs k).toNat)) = life - sW g wear runs k - g (nth wear (nth runs k).toNat) by omega]
    exact this)
  have e0 : life - sW g wear runs 0 = life := by simp [sW]
  simp only [e0] at hI
  refine Fc.intro0 fn58 (by simp) rfl rfl ?_; simp only [argF]
  refine ITri.seq ?_
  refine ITri.reg pokT ?_; simp -implicitDefEqProofs (disch := first | decide | exact of_eq_true (eq_true rfl) | omega | assumption) only [ ↓vcD, vcE, ↓vcG, vcF, evs, evP, evB, intsOf, fillC, Value.cells, pt, Value.oneCell', reduceIte, reduceCtorEq, Nat.reduceEqDiff, Nat.reduceAdd, Nat.reduceMul, Nat.reduceLT, Nat.reduceBEq, Nat.reduceLeDiff, Nat.reduceSub]
  refine ITri.seq ?_
  refine ITri.reg pokT ?_; simp -implicitDefEqProofs (disch := first | decide | exact of_eq_true (eq_true rfl) | omega | assumption) only [ ↓vcD, vcE, ↓vcG, vcF, evs, evP, evB, intsOf, fillC, Value.cells, pt, Value.oneCell', reduceIte, reduceCtorEq, Nat.reduceEqDiff, Nat.reduceAdd, Nat.reduceMul, Nat.reduceLT, Nat.reduceBEq, Nat.reduceLeDiff, Nat.reduceSub]
  refine ITri.seq ?_
  refine ITri.reg pokT ?_; simp -implicitDefEqProofs (disch := first | decide | exact of_eq_true (eq_true rfl) | omega | assumption) only [ ↓vcD, vcE, ↓vcG, vcF, evs, evP, evB, intsOf, fillC, Value.cells, pt, Value.oneCell', reduceIte, reduceCtorEq, Nat.reduceEqDiff, Nat.reduceAdd, Nat.reduceMul, Nat.reduceLT, Nat.reduceBEq, Nat.reduceLeDiff, Nat.reduceSub]
  refine ⟨_, _, hI, ?_⟩
  try simp -implicitDefEqProofs (disch := first | decide | exact of_eq_true (eq_true rfl) | omega | assumption) only [ ↓vcD, vcE, ↓vcG, vcF, evs, evP, evB, intsOf, fillC, Value.cells, pt, Value.oneCell', reduceIte, reduceCtorEq, Nat.reduceEqDiff, Nat.reduceAdd, Nat.reduceMul, Nat.reduceLT, Nat.reduceBEq, Nat.reduceLeDiff, Nat.reduceSub]
  refine ITri.ret ?_; exact EndR.plain (by simp) (by rfl) (by rfl) (by rfl)
/-- The same, where the boxes are the caller's. -/
theorem first_x (nw cw nr cr : Nat) (life : Int) (wear : List Rg) (runs : List Int) (f : Nat) {v : Int} 
    (F : Fc Try.prog 58 [.func (.func f) #[] #[], pt 3, pt 5, pt 4] (Hp 6 (ag6 nw cw nr cr life wear runs)) (.int .i64 v) (Hp 6 (ag6 nw cw nr cr life wear runs))) :
    Fc Try.prog 58 [.func (.func f) #[] #[], pt 3, pt 5, pt 4] (Hp 3 (ag6 nw cw nr cr life wear runs)) (.int .i64 v) (Hp 3 (ag6 nw cw nr cr life wear runs)) := by
  have s : ∀ i, i < 6 → (Hp 3 (ag6 nw cw nr cr life wear runs)).sees i = true := fun i hi => by
    simp [AH.sees, Hq, hi]
  have g : ∀ i o, (ag6 nw cw nr cr life wear runs)[i]? = some (some o) → (Hp 3 (ag6 nw cw nr cr life wear runs)).get i = some o := fun i o e => by rw [Hp_get, e]; rfl
  refine Fc.frameL (os := []) F [(0, 0, false), (1, 0, false), (2, 0, false), (3, 0, false), (4, 0, false), (5, 0, false)] rfl ⟨fr_none (s 0 (by omega)), fr_rd (p := (1, 0, false)) (n := nw) rfl ⟨s 1 (by omega), Blk.mk (rows eR wear) 0 false, g _ _ rfl, ⟨[], by simp⟩, fun _ => Nat.zero_le _⟩ (rows_no _), fr_rd (p := (2, 0, false)) (n := nr) rfl ⟨s 2 (by omega), Blk.mk (rows eN runs) 0 false, g _ _ rfl, ⟨[], by simp⟩, fun _ => Nat.zero_le _⟩ (rows_no _), ⟨s 3 (by omega), fun ob e => ?_⟩, ⟨s 4 (by omega), fun ob e => ?_⟩, ⟨s 5 (by omega), fun ob e => ?_⟩, trivial⟩ ?_ trivial (fun o ho => by cases ho) rfl rfl rfl
  · cases e
    exact .inr ⟨(fun e => by cases e), _, g 3 _ rfl, ⟨[], rfl⟩, (fun e => by cases e), ⟨trivial, trivial⟩, (fun e => by cases e), fun _ => Nat.one_ne_zero⟩
  · cases e
    exact .inr ⟨(fun e => by cases e), _, g 4 _ rfl, ⟨[], rfl⟩, (fun e => by cases e), ⟨⟨show 1 < 6 by decide, trivial⟩, trivial⟩, (fun e => by cases e), fun _ => Nat.one_ne_zero⟩
  · cases e
    exact .inr ⟨(fun e => by cases e), _, g 5 _ rfl, ⟨[], rfl⟩, (fun e => by cases e), ⟨⟨show 2 < 6 by decide, trivial⟩, trivial⟩, (fun e => by cases e), fun _ => Nat.one_ne_zero⟩
  · exact ⟨⟨trivial, trivial, trivial⟩, ⟨show 3 < 6 by decide, trivial⟩, ⟨show 5 < 6 by decide, trivial⟩, ⟨show 4 < 6 by decide, trivial⟩, trivial⟩
end Go.Proofs.Ythoigkgjidcklaa
