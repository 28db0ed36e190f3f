/-
  Chapter 1 at the top: numbers, ranges, sums, differences, by names.
-/
import Derived.Test.YtjfgbdmdnejhdaaFitA
set_option linter.unusedSimpArgs false
set_option linter.unusedVariables false
namespace Go.Proofs.Ytjfgbdmdnejhdaa
open Go.RowKit Go.Vm
set_option maxRecDepth 100000
/- slices.IndexFunc[[]boule/api.Range,boule/api.Range] · slots 19 · names 0:s 1:f 2:s 3:f 5:i · results [4] -/
def ir63_r0 : IC := .reg [⟨some 4, none, false, .mv (.k (.int .i64 0))⟩] (some [0, 1])
def ir63_r1 : IC := .reg [⟨some 6, none, false, .mv (.t 0)⟩,
  ⟨some 7, none, false, .len (.t 6)⟩,
  ⟨some 8, none, false, .mv (.k (.int .i64 0))⟩] (some [0, 1, 7, 8])
def ir63_r2 : IC := .reg [⟨some 9, none, false, .cmp .lss (.t 8) (.t 7)⟩] (some [0, 1, 7, 8, 9])
def ir63_1 : IC := .cond (.t 9) .skip (.exit 0)
def ir63_r3 : IC := .reg [⟨some 10, none, false, .mv (.t 8)⟩,
  ⟨some 5, none, false, .mv (.t 10)⟩] (some [0, 1, 5, 7, 8])
def ir63_r4 : IC := .reg [⟨some 11, none, false, .mv (.t 1)⟩,
  ⟨some 12, none, false, .mv (.t 0)⟩,
  ⟨some 13, none, false, .mv (.t 5)⟩,
  ⟨some 14, none, false, .iad 2 (.t 12) (.t 13)⟩,
  ⟨some 15, none, false, .lda 2 (.t 14)⟩,
  ⟨some 16, none, false, .call (.t 11) [(.t 15)]⟩] (some [0, 1, 5, 7, 8, 16])
def ir63_r5 : IC := .reg [⟨some 17, none, false, .mv (.t 5)⟩,
  ⟨some 4, none, false, .mv (.t 17)⟩] (some [4])
def ir63_2 : IC := .seq ir63_r5 .ret
def ir63_3 : IC := .cond (.t 16) ir63_2 .skip
def ir63_4 : IC := .seq ir63_r4 ir63_3
def ir63_5 : IC := .seq ir63_r3 ir63_4
def ir63_6 : IC := .block 1 ir63_5
def ir63_r6 : IC := .reg [⟨some 18, none, false, .ar .add (.t 8) (.k (.int .i64 1))⟩,
  ⟨some 8, none, false, .mv (.t 18)⟩] (some [0, 1, 7, 8])
def ir63_7 : IC := .seq ir63_6 ir63_r6
def ir63_8 : IC := .seq ir63_1 ir63_7
def ir63_9 : IC := .seq ir63_r2 ir63_8
def ir63_10 : IC := .loop ir63_9
def ir63_11 : IC := .block 0 ir63_10
def ir63_12 : IC := .seq ir63_r1 ir63_11
def ir63_r7 : IC := .reg [⟨some 4, none, false, .mv (.k (.int .i64 (-1)))⟩] (some [4])
def ir63_13 : IC := .seq ir63_r7 .ret
def ir63_14 : IC := .seq ir63_12 ir63_13
def ir63_15 : IC := .seq ir63_r0 ir63_14
def ir63 : IC := ir63_15
theorem fn63 : FnIs Try.prog 63 ir63 19 [.tmp 4] := ⟨Try.f63, Try.f63.body.getD .skip, Try.func63, by kernel_rfl, by kernel_rfl, by kernel_rfl, by kernel_rfl⟩
/- slices.ContainsFunc[[]boule/api.Range,boule/api.Range] · slots 9 · names 0:s 1:f 2:s 3:f · results [4] -/
def ir49_r0 : IC := .reg [⟨some 4, none, false, .mv (.k (.bool false))⟩] (some [0, 1])
def ir49_r1 : IC := .reg [⟨some 5, none, false, .mv (.t 0)⟩,
  ⟨some 6, none, false, .mv (.t 1)⟩,
  ⟨some 7, none, false, .call (.f 63) [(.t 5), (.t 6)]⟩,
  ⟨some 8, none, false, .cmp .geq (.t 7) (.k (.int .i64 0))⟩,
  ⟨some 4, none, false, .mv (.t 8)⟩] (some [4])
def ir49_1 : IC := .seq ir49_r1 .ret
def ir49_2 : IC := .seq ir49_r0 ir49_1
def ir49 : IC := ir49_2
theorem fn49 : FnIs Try.prog 49 ir49 9 [.tmp 4] := ⟨Try.f49, Try.f49.body.getD .skip, Try.func49, by kernel_rfl, by kernel_rfl, by kernel_rfl, by kernel_rfl⟩
/- boule/units.is · slots 6 · names 0:l 1:l · results [2] -/
def ir53_r0 : IC := .reg [⟨some 2, none, false, .mv (.k (.bool false))⟩] (some [0])
def ir53_r1 : IC := .reg [⟨some 3, none, false, .mv (.t 0)⟩,
  ⟨some 4, none, false, .call (.f 36) [(.t 3), (.f 66)]⟩,
  ⟨some 5, none, false, .not (.t 4)⟩,
  ⟨some 2, none, false, .mv (.t 5)⟩] (some [2])
def ir53_1 : IC := .seq ir53_r1 .ret
def ir53_2 : IC := .seq ir53_r0 ir53_1
def ir53 : IC := ir53_2
theorem fn53 : FnIs Try.prog 53 ir53 6 [.tmp 2] := ⟨Try.f53, Try.f53.body.getD .skip, Try.func53, by kernel_rfl, by kernel_rfl, by kernel_rfl, by kernel_rfl⟩
/- boule/units.is$1 · slots 9 · names 0:n 1:n · results [2] -/
def ir66_r0 : IC := .reg [⟨some 2, none, false, .mv (.k (.bool false))⟩] (some [0])
def ir66_r1 : IC := .reg [⟨some 3, none, false, .mv (.t 0)⟩,
  ⟨some 4, none, false, .cmp .lss (.t 3) (.k (.int .i64 (-1000000000000000)))⟩,
  ⟨some 5, none, false, .mv (.t 4)⟩,
  ⟨some 6, some (5, false), false, .mv (.t 0)⟩,
  ⟨some 7, some (5, false), false, .cmp .gtr (.t 6) (.k (.int .i64 1000000000000000))⟩,
  ⟨some 8, none, false, .pick (.t 5) (.k (.bool true)) (.t 7)⟩,
  ⟨some 2, none, false, .mv (.t 8)⟩] (some [2])
def ir66_1 : IC := .seq ir66_r1 .ret
def ir66_2 : IC := .seq ir66_r0 ir66_1
def ir66 : IC := ir66_2
theorem fn66 : FnIs Try.prog 66 ir66 9 [.tmp 2] := ⟨Try.f66, Try.f66.body.getD .skip, Try.func66, by kernel_rfl, by kernel_rfl, by kernel_rfl, by kernel_rfl⟩
/- boule/units.valid · slots 6 · names 0:l 1:l · results [2] -/
def ir34_r0 : IC := .reg [⟨some 2, none, false, .mv (.k (.bool false))⟩] (some [0])
def ir34_r1 : IC := .reg [⟨some 3, none, false, .mv (.t 0)⟩,
  ⟨some 4, none, false, .call (.f 49) [(.t 3), (.f 54)]⟩,
  ⟨some 5, none, false, .not (.t 4)⟩,
  ⟨some 2, none, false, .mv (.t 5)⟩] (some [2])
def ir34_1 : IC := .seq ir34_r1 .ret
def ir34_2 : IC := .seq ir34_r0 ir34_1
def ir34 : IC := ir34_2
theorem fn34 : FnIs Try.prog 34 ir34 6 [.tmp 2] := ⟨Try.f34, Try.f34.body.getD .skip, Try.func34, by kernel_rfl, by kernel_rfl, by kernel_rfl, by kernel_rfl⟩
/- boule/units.valid$1 · slots 17 · names 0:r 1:r · results [2] -/
def ir54_r0 : IC := .reg [⟨some 1, none, false, .box (.t 0)⟩,
  ⟨some 2, none, false, .mv (.k (.bool false))⟩] (some [1])
def ir54_r1 : IC := .reg [⟨some 3, none, false, .fad 0 (.t 1)⟩,
  ⟨some 4, none, false, .ldc (.t 3)⟩,
  ⟨some 5, none, false, .fad 1 (.t 1)⟩,
  ⟨some 6, none, false, .ldc (.t 5)⟩,
  ⟨some 7, none, false, .bsl 1 2 [(.int .i64 0), (.int .i64 0)] [(0, (.t 4)), (1, (.t 6))]⟩,
  ⟨some 8, none, false, .call (.f 53) [(.t 7)]⟩,
  ⟨some 9, none, false, .not (.t 8)⟩,
  ⟨some 10, none, false, .mv (.t 9)⟩,
  ⟨some 11, some (10, false), false, .fad 0 (.t 1)⟩,
  ⟨some 12, some (10, false), false, .ldc (.t 11)⟩,
  ⟨some 13, some (10, false), false, .fad 1 (.t 1)⟩,
  ⟨some 14, some (10, false), false, .ldc (.t 13)⟩,
  ⟨some 15, some (10, false), false, .cmp .gtr (.t 12) (.t 14)⟩,
  ⟨some 16, none, false, .pick (.t 10) (.k (.bool true)) (.t 15)⟩,
  ⟨some 2, none, false, .mv (.t 16)⟩] (some [2])
def ir54_1 : IC := .seq ir54_r1 .ret
def ir54_2 : IC := .seq ir54_r0 ir54_1
def ir54 : IC := ir54_2
theorem fn54 : FnIs Try.prog 54 ir54 17 [.tmp 2] := ⟨Try.f54, Try.f54.body.getD .skip, Try.func54, by kernel_rfl, by kernel_rfl, by kernel_rfl, by kernel_rfl⟩
/- boule/units.fits · slots 15 · names 0:low 1:high 2:low 3:high · results [4, 5] -/
def ir32_r0 : IC := .reg [⟨some 4, none, false, .alloc [(.int .i64 0), (.int .i64 0)]⟩,
  ⟨some 5, none, false, .mv (.k (.int .i64 0))⟩] (some [0, 1, 4])
def ir32_r1 : IC := .reg [⟨some 6, none, false, .mv (.t 0)⟩,
  ⟨some 7, none, false, .mv (.t 1)⟩,
  ⟨some 8, none, false, .bsl 1 2 [(.int .i64 0), (.int .i64 0)] [(0, (.t 6)), (1, (.t 7))]⟩,
  ⟨some 9, none, false, .call (.f 53) [(.t 8)]⟩,
  ⟨some 10, none, false, .not (.t 9)⟩] (some [0, 1, 4, 10])
def ir32_r2 : IC := .reg [⟨some 11, none, false, .bld [(.int .i64 0), (.int .i64 0)] []⟩,
  ⟨none, none, false, .st 2 (.t 4) (.t 11)⟩,
  ⟨some 5, none, false, .mv (.k (.int .i64 10))⟩] (some [4, 5])
def ir32_1 : IC := .seq ir32_r2 .ret
def ir32_2 : IC := .cond (.t 10) ir32_1 .skip
def ir32_3 : IC := .seq ir32_r1 ir32_2
def ir32_r3 : IC := .reg [⟨some 12, none, false, .mv (.t 0)⟩,
  ⟨some 13, none, false, .mv (.t 1)⟩,
  ⟨some 14, none, false, .bld [(.int .i64 0), (.int .i64 0)] [(0, 1, (.t 12)), (1, 1, (.t 13))]⟩,
  ⟨none, none, false, .st 2 (.t 4) (.t 14)⟩,
  ⟨some 5, none, false, .mv (.k (.int .i64 0))⟩] (some [4, 5])
def ir32_4 : IC := .seq ir32_r3 .ret
def ir32_5 : IC := .seq ir32_3 ir32_4
def ir32_6 : IC := .seq ir32_r0 ir32_5
def ir32 : IC := ir32_6
theorem fn32 : FnIs Try.prog 32 ir32 15 [.cell 4 23, .tmp 5] := ⟨Try.f32, Try.f32.body.getD .skip, Try.func32, by kernel_rfl, by kernel_rfl, by kernel_rfl, by kernel_rfl⟩
theorem takeII {xs : List (Int × Int)} {i : Nat} (hi : i < xs.length) : takeC (rows eII xs) (i * 2) 2 = some [.int .i64 (nth xs i).1, .int .i64 (nth xs i).2] := rows_takeC (f := eII) hi
theorem indexI_f (g : Nat) (p : Int → Bool) (HG : ∀ x (h : AH), h.sees 0 = true → Fc Try.prog g [.int .i64 x] h (.bool (p x)) h) (n : Nat) (xs : List Int) (hn : xs.length = n) (hb : n ≤ 1000000) {h : AH} {s : Value} (h0 : h.sees 0 = true) (r : Rd h s n (rows eI xs)) :
    Fc Try.prog 55 [s, .func (.func g) #[] #[]] h (.int .i64 (idxF p xs)) h := by
  refine Fc.lift1 (mk := fun ss => ss ++ [.func (.func g) #[] #[]]) (mkv := fun _ => .int .i64 (idxF p xs)) (os := []) (fun c => ?_) (MkL.app rfl) (MkV.const rfl) (rows_no (f := eI) xs) (fun o ho => by cases ho) h0 r
  refine Fc.intro0 (h := H1 (rows eI xs)) fn55 (by simp) rfl rfl ?_; simp only [argF, List.cons_append, List.nil_append]
  refine ITri.seq ?_
  refine ITri.reg pok ?_; simp -implicitDefEqProofs (disch := first | decide | exact of_eq_true (eq_true rfl) | omega | assumption) only [ ↓vcD, vcE, ↓vcG, vcF, evs, evP, evB, intsOf, fillC, Value.cells, pt, Value.oneCell', reduceIte, reduceCtorEq, Nat.reduceEqDiff, Nat.reduceAdd, Nat.reduceMul, Nat.reduceLT, Nat.reduceBEq, Nat.reduceLeDiff, Nat.reduceSub] -- r0 slices.go:107
  refine ITri.seq ?_
  refine ITri.seq ?_
  refine ITri.reg pok ?_; simp -implicitDefEqProofs (disch := first | decide | exact of_eq_true (eq_true rfl) | omega | assumption) only [ ↓vcD, vcE, ↓vcG, vcF, evs, evP, evB, intsOf, fillC, Value.cells, pt, Value.oneCell', reduceIte, reduceCtorEq, Nat.reduceEqDiff, Nat.reduceAdd, Nat.reduceMul, Nat.reduceLT, Nat.reduceBEq, Nat.reduceLeDiff, Nat.reduceSub] -- r1
  refine ITri.block ?_
  refine ITri.loop (fun k : Nat => [(0, s1 n c), (1, .func (.func g) #[] #[]), (7, .int .i64 n), (8, .int .i64 k)]) (fun _ => []) (fun k => H1 (rows eI xs)) (fun k => k ≤ n ∧ ∀ j, j < k → p (nth xs j) = false) (fun k => n - k) 0 ⟨Nat.zero_le _, fun j hj => by omega⟩ (Wk.sub ⟨rfl, rfl, rfl, rfl, trivial⟩) fun k hk => ?_
  obtain ⟨hk, hj⟩ := hk
  refine ITri.seq ?_
  refine ITri.reg pok ?_; simp -implicitDefEqProofs (disch := first | decide | exact of_eq_true (eq_true rfl) | omega | assumption) only [ ↓vcD, vcE, ↓vcG, vcF, evs, evP, evB, intsOf, fillC, Value.cells, pt, Value.oneCell', reduceIte, reduceCtorEq, Nat.reduceEqDiff, Nat.reduceAdd, Nat.reduceMul, Nat.reduceLT, Nat.reduceBEq, Nat.reduceLeDiff, Nat.reduceSub]
  refine ITri.seq ?_
  refine ITri.condD (by rfl) (fun h1 => ?_) (fun h1 => ?_)
  · have h2 : k < n := by omega
    refine ITri.skip ?_; simp only [SeqQ_normal, BlkQ_normal]
    refine ITri.seq ?_
    refine ITri.block ?_
    refine ITri.seq ?_
    refine ITri.reg pok ?_; simp -implicitDefEqProofs (disch := first | decide | exact of_eq_true (eq_true rfl) | omega | assumption) only [ ↓vcD, vcE, ↓vcG, vcF, evs, evP, evB, intsOf, fillC, Value.cells, pt, Value.oneCell', reduceIte, reduceCtorEq, Nat.reduceEqDiff, Nat.reduceAdd, Nat.reduceMul, Nat.reduceLT, Nat.reduceBEq, Nat.reduceLeDiff, Nat.reduceSub]
    refine ITri.seq ?_
    refine ITri.reg pok ?_; simp -implicitDefEqProofs (disch := first | decide | exact of_eq_true (eq_true rfl) | omega | assumption) only [getI,  ↓vcD, vcE, ↓vcG, vcF, evs, evP, evB, intsOf, fillC, Value.cells, pt, Value.oneCell', reduceIte, reduceCtorEq, Nat.reduceEqDiff, Nat.reduceAdd, Nat.reduceMul, Nat.reduceLT, Nat.reduceBEq, Nat.reduceLeDiff, Nat.reduceSub]
    refine ⟨_, _, HG _ _ (sees0 rfl (of_decide_eq_true rfl)), ?_⟩
    try simp -implicitDefEqProofs (disch := first | decide | exact of_eq_true (eq_true rfl) | omega | assumption) only [ ↓vcD, vcE, ↓vcG, vcF, evs, evP, evB, intsOf, fillC, Value.cells, pt, Value.oneCell', reduceIte, reduceCtorEq, Nat.reduceEqDiff, Nat.reduceAdd, Nat.reduceMul, Nat.reduceLT, Nat.reduceBEq, Nat.reduceLeDiff, Nat.reduceSub]
    refine ITri.cond (by rfl) (fun h3 => ?_) (fun h3 => ?_)
    · refine ITri.seq ?_
      refine ITri.reg pok ?_; simp -implicitDefEqProofs (disch := first | decide | exact of_eq_true (eq_true rfl) | omega | assumption) only [ ↓vcD, vcE, ↓vcG, vcF, evs, evP, evB, intsOf, fillC, Value.cells, pt, Value.oneCell', reduceIte, reduceCtorEq, Nat.reduceEqDiff, Nat.reduceAdd, Nat.reduceMul, Nat.reduceLT, Nat.reduceBEq, Nat.reduceLeDiff, Nat.reduceSub]
      refine ITri.ret ?_; exact EndR.plain (by simp) (by rfl) (by rw [idxF_some (by omega) h3 hj]; rfl) (by rfl)
    refine ITri.skip ?_; simp only [SeqQ_normal, BlkQ_normal]
    refine ITri.reg pok ?_; simp -implicitDefEqProofs (disch := first | decide | exact of_eq_true (eq_true rfl) | omega | assumption) only [ ↓vcD, vcE, ↓vcG, vcF, evs, evP, evB, intsOf, fillC, Value.cells, pt, Value.oneCell', reduceIte, reduceCtorEq, Nat.reduceEqDiff, Nat.reduceAdd, Nat.reduceMul, Nat.reduceLT, Nat.reduceBEq, Nat.reduceLeDiff, Nat.reduceSub]
    refine LoopQ.next (k + 1) ⟨by omega, fun j hj2 => ?_⟩ (by omega) (Wk.sub ⟨rfl, rfl, rfl, rfl, trivial⟩)
    rcases Nat.lt_or_ge j k with q | q
    · exact hj j q
    · obtain rfl : j = k := by omega
      exact h3
  refine ITri.exit ?_; try simp -implicitDefEqProofs (disch := first | decide | exact of_eq_true (eq_true rfl) | omega | assumption) only [ ↓vcD, vcE, ↓vcG, vcF, evs, evP, evB, intsOf, fillC, Value.cells, pt, Value.oneCell', reduceIte, reduceCtorEq, Nat.reduceEqDiff, Nat.reduceAdd, Nat.reduceMul, Nat.reduceLT, Nat.reduceBEq, Nat.reduceLeDiff, Nat.reduceSub]
  obtain rfl : n = k := by omega
  refine ITri.seq ?_
  refine ITri.reg pok ?_; simp -implicitDefEqProofs (disch := first | decide | exact of_eq_true (eq_true rfl) | omega | assumption) only [ ↓vcD, vcE, ↓vcG, vcF, evs, evP, evB, intsOf, fillC, Value.cells, pt, Value.oneCell', reduceIte, reduceCtorEq, Nat.reduceEqDiff, Nat.reduceAdd, Nat.reduceMul, Nat.reduceLT, Nat.reduceBEq, Nat.reduceLeDiff, Nat.reduceSub]
  refine ITri.ret ?_; exact EndR.plain (by simp) (by rfl) (by rw [idxF_none (any_before hn hj)]; rfl) (by rfl)
theorem containsI_f (g : Nat) (p : Int → Bool) (HG : ∀ x (h : AH), h.sees 0 = true → Fc Try.prog g [.int .i64 x] h (.bool (p x)) h) (n : Nat) (xs : List Int) (hn : xs.length = n) (hb : n ≤ 1000000) {h : AH} {s : Value} (h0 : h.sees 0 = true) (r : Rd h s n (rows eI xs)) :
    Fc Try.prog 36 [s, .func (.func g) #[] #[]] h (.bool (xs.any p)) h := by
  refine Fc.lift1 (mk := fun ss => ss ++ [.func (.func g) #[] #[]]) (mkv := fun _ => .bool (xs.any p)) (os := []) (fun c => ?_) (MkL.app rfl) (MkV.const rfl) (rows_no (f := eI) xs) (fun o ho => by cases ho) h0 r
  refine Fc.intro0 (h := H1 (rows eI xs)) fn36 (by simp) rfl rfl ?_; simp only [argF, List.cons_append, List.nil_append]
  refine ITri.seq ?_
  refine ITri.reg pok ?_; simp -implicitDefEqProofs (disch := first | decide | exact of_eq_true (eq_true rfl) | omega | assumption) only [ ↓vcD, vcE, ↓vcG, vcF, evs, evP, evB, intsOf, fillC, Value.cells, pt, Value.oneCell', reduceIte, reduceCtorEq, Nat.reduceEqDiff, Nat.reduceAdd, Nat.reduceMul, Nat.reduceLT, Nat.reduceBEq, Nat.reduceLeDiff, Nat.reduceSub]
  refine ITri.seq ?_
  refine ITri.reg pok ?_; simp -implicitDefEqProofs (disch := first | decide | exact of_eq_true (eq_true rfl) | omega | assumption) only [ ↓vcD, vcE, ↓vcG, vcF, evs, evP, evB, intsOf, fillC, Value.cells, pt, Value.oneCell', reduceIte, reduceCtorEq, Nat.reduceEqDiff, Nat.reduceAdd, Nat.reduceMul, Nat.reduceLT, Nat.reduceBEq, Nat.reduceLeDiff, Nat.reduceSub]
  refine ⟨_, _, indexI_f g p HG n xs hn hb (sees0 rfl (of_decide_eq_true rfl)) (Rd.hq rfl rfl), ?_⟩
  try simp -implicitDefEqProofs (disch := first | decide | exact of_eq_true (eq_true rfl) | omega | assumption) only [ ↓vcD, vcE, ↓vcG, vcF, evs, evP, evB, intsOf, fillC, Value.cells, pt, Value.oneCell', reduceIte, reduceCtorEq, Nat.reduceEqDiff, Nat.reduceAdd, Nat.reduceMul, Nat.reduceLT, Nat.reduceBEq, Nat.reduceLeDiff, Nat.reduceSub]
  refine ITri.ret ?_; exact EndR.plain (by simp) (by rfl) (by rw [idxF_any]; rfl) (by rfl)
theorem indexR_f (g : Nat) (p : Int × Int → Bool) (HG : ∀ x (h : AH), h.sees 0 = true → Fc Try.prog g [.agg #[.int .i64 x.1, .int .i64 x.2]] h (.bool (p x)) h) (n : Nat) (xs : List (Int × Int)) (hn : xs.length = n) (hb : n ≤ 1000000) {h : AH} {s : Value} (h0 : h.sees 0 = true) (r : Rd h s n (rows eII xs)) :
    Fc Try.prog 63 [s, .func (.func g) #[] #[]] h (.int .i64 (idxF p xs)) h := by
  refine Fc.lift1 (mk := fun ss => ss ++ [.func (.func g) #[] #[]]) (mkv := fun _ => .int .i64 (idxF p xs)) (os := []) (fun c => ?_) (MkL.app rfl) (MkV.const rfl) (rows_no (f := eII) xs) (fun o ho => by cases ho) h0 r
  refine Fc.intro0 (h := H1 (rows eII xs)) fn63 (by simp) rfl rfl ?_; simp only [argF, List.cons_append, List.nil_append]
  refine ITri.seq ?_
  refine ITri.reg pok ?_; simp -implicitDefEqProofs (disch := first | decide | exact of_eq_true (eq_true rfl) | omega | assumption) only [ ↓vcD, vcE, ↓vcG, vcF, evs, evP, evB, intsOf, fillC, Value.cells, pt, Value.oneCell', reduceIte, reduceCtorEq, Nat.reduceEqDiff, Nat.reduceAdd, Nat.reduceMul, Nat.reduceLT, Nat.reduceBEq, Nat.reduceLeDiff, Nat.reduceSub] -- r0 slices.go:107
  refine ITri.seq ?_
  refine ITri.seq ?_
  refine ITri.reg pok ?_; simp -implicitDefEqProofs (disch := first | decide | exact of_eq_true (eq_true rfl) | omega | assumption) only [ ↓vcD, vcE, ↓vcG, vcF, evs, evP, evB, intsOf, fillC, Value.cells, pt, Value.oneCell', reduceIte, reduceCtorEq, Nat.reduceEqDiff, Nat.reduceAdd, Nat.reduceMul, Nat.reduceLT, Nat.reduceBEq, Nat.reduceLeDiff, Nat.reduceSub] -- r1
  refine ITri.block ?_
  refine ITri.loop (fun k : Nat => [(0, s1 n c), (1, .func (.func g) #[] #[]), (7, .int .i64 n), (8, .int .i64 k)]) (fun _ => []) (fun k => H1 (rows eII xs)) (fun k => k ≤ n ∧ ∀ j, j < k → p (nth xs j) = false) (fun k => n - k) 0 ⟨Nat.zero_le _, fun j hj => by omega⟩ (Wk.sub ⟨rfl, rfl, rfl, rfl, trivial⟩) fun k hk => ?_
  obtain ⟨hk, hj⟩ := hk
  refine ITri.seq ?_
  refine ITri.reg pok ?_; simp -implicitDefEqProofs (disch := first | decide | exact of_eq_true (eq_true rfl) | omega | assumption) only [ ↓vcD, vcE, ↓vcG, vcF, evs, evP, evB, intsOf, fillC, Value.cells, pt, Value.oneCell', reduceIte, reduceCtorEq, Nat.reduceEqDiff, Nat.reduceAdd, Nat.reduceMul, Nat.reduceLT, Nat.reduceBEq, Nat.reduceLeDiff, Nat.reduceSub]
  refine ITri.seq ?_
  refine ITri.condD (by rfl) (fun h1 => ?_) (fun h1 => ?_)
  · have h2 : k < n := by omega
    refine ITri.skip ?_; simp only [SeqQ_normal, BlkQ_normal]
    refine ITri.seq ?_
    refine ITri.block ?_
    refine ITri.seq ?_
    refine ITri.reg pok ?_; simp -implicitDefEqProofs (disch := first | decide | exact of_eq_true (eq_true rfl) | omega | assumption) only [ ↓vcD, vcE, ↓vcG, vcF, evs, evP, evB, intsOf, fillC, Value.cells, pt, Value.oneCell', reduceIte, reduceCtorEq, Nat.reduceEqDiff, Nat.reduceAdd, Nat.reduceMul, Nat.reduceLT, Nat.reduceBEq, Nat.reduceLeDiff, Nat.reduceSub]
    refine ITri.seq ?_
    refine ITri.reg pok ?_; simp -implicitDefEqProofs (disch := first | decide | exact of_eq_true (eq_true rfl) | omega | assumption) only [takeII,  ↓vcD, vcE, ↓vcG, vcF, evs, evP, evB, intsOf, fillC, Value.cells, pt, Value.oneCell', reduceIte, reduceCtorEq, Nat.reduceEqDiff, Nat.reduceAdd, Nat.reduceMul, Nat.reduceLT, Nat.reduceBEq, Nat.reduceLeDiff, Nat.reduceSub]
    refine ⟨_, _, HG _ _ (sees0 rfl (of_decide_eq_true rfl)), ?_⟩
    try simp -implicitDefEqProofs (disch := first | decide | exact of_eq_true (eq_true rfl) | omega | assumption) only [ ↓vcD, vcE, ↓vcG, vcF, evs, evP, evB, intsOf, fillC, Value.cells, pt, Value.oneCell', reduceIte, reduceCtorEq, Nat.reduceEqDiff, Nat.reduceAdd, Nat.reduceMul, Nat.reduceLT, Nat.reduceBEq, Nat.reduceLeDiff, Nat.reduceSub]
    refine ITri.cond (by rfl) (fun h3 => ?_) (fun h3 => ?_)
    · refine ITri.seq ?_
      refine ITri.reg pok ?_; simp -implicitDefEqProofs (disch := first | decide | exact of_eq_true (eq_true rfl) | omega | assumption) only [ ↓vcD, vcE, ↓vcG, vcF, evs, evP, evB, intsOf, fillC, Value.cells, pt, Value.oneCell', reduceIte, reduceCtorEq, Nat.reduceEqDiff, Nat.reduceAdd, Nat.reduceMul, Nat.reduceLT, Nat.reduceBEq, Nat.reduceLeDiff, Nat.reduceSub]
      refine ITri.ret ?_; exact EndR.plain (by simp) (by rfl) (by rw [idxF_some (by omega) h3 hj]; rfl) (by rfl)
    refine ITri.skip ?_; simp only [SeqQ_normal, BlkQ_normal]
    refine ITri.reg pok ?_; simp -implicitDefEqProofs (disch := first | decide | exact of_eq_true (eq_true rfl) | omega | assumption) only [ ↓vcD, vcE, ↓vcG, vcF, evs, evP, evB, intsOf, fillC, Value.cells, pt, Value.oneCell', reduceIte, reduceCtorEq, Nat.reduceEqDiff, Nat.reduceAdd, Nat.reduceMul, Nat.reduceLT, Nat.reduceBEq, Nat.reduceLeDiff, Nat.reduceSub]
    refine LoopQ.next (k + 1) ⟨by omega, fun j hj2 => ?_⟩ (by omega) (Wk.sub ⟨rfl, rfl, rfl, rfl, trivial⟩)
    rcases Nat.lt_or_ge j k with q | q
    · exact hj j q
    · obtain rfl : j = k := by omega
      exact h3
  refine ITri.exit ?_; try simp -implicitDefEqProofs (disch := first | decide | exact of_eq_true (eq_true rfl) | omega | assumption) only [ ↓vcD, vcE, ↓vcG, vcF, evs, evP, evB, intsOf, fillC, Value.cells, pt, Value.oneCell', reduceIte, reduceCtorEq, Nat.reduceEqDiff, Nat.reduceAdd, Nat.reduceMul, Nat.reduceLT, Nat.reduceBEq, Nat.reduceLeDiff, Nat.reduceSub]
  obtain rfl : n = k := by omega
  refine ITri.seq ?_
  refine ITri.reg pok ?_; simp -implicitDefEqProofs (disch := first | decide | exact of_eq_true (eq_true rfl) | omega | assumption) only [ ↓vcD, vcE, ↓vcG, vcF, evs, evP, evB, intsOf, fillC, Value.cells, pt, Value.oneCell', reduceIte, reduceCtorEq, Nat.reduceEqDiff, Nat.reduceAdd, Nat.reduceMul, Nat.reduceLT, Nat.reduceBEq, Nat.reduceLeDiff, Nat.reduceSub]
  refine ITri.ret ?_; exact EndR.plain (by simp) (by rfl) (by rw [idxF_none (any_before hn hj)]; rfl) (by rfl)
theorem containsR_f (g : Nat) (p : Int × Int → Bool) (HG : ∀ x (h : AH), h.sees 0 = true → Fc Try.prog g [.agg #[.int .i64 x.1, .int .i64 x.2]] h (.bool (p x)) h) (n : Nat) (xs : List (Int × Int)) (hn : xs.length = n) (hb : n ≤ 1000000) {h : AH} {s : Value} (h0 : h.sees 0 = true) (r : Rd h s n (rows eII xs)) :
    Fc Try.prog 49 [s, .func (.func g) #[] #[]] h (.bool (xs.any p)) h := by
  refine Fc.lift1 (mk := fun ss => ss ++ [.func (.func g) #[] #[]]) (mkv := fun _ => .bool (xs.any p)) (os := []) (fun c => ?_) (MkL.app rfl) (MkV.const rfl) (rows_no (f := eII) xs) (fun o ho => by cases ho) h0 r
  refine Fc.intro0 (h := H1 (rows eII xs)) fn49 (by simp) rfl rfl ?_; simp only [argF, List.cons_append, List.nil_append]
  refine ITri.seq ?_
  refine ITri.reg pok ?_; simp -implicitDefEqProofs (disch := first | decide | exact of_eq_true (eq_true rfl) | omega | assumption) only [ ↓vcD, vcE, ↓vcG, vcF, evs, evP, evB, intsOf, fillC, Value.cells, pt, Value.oneCell', reduceIte, reduceCtorEq, Nat.reduceEqDiff, Nat.reduceAdd, Nat.reduceMul, Nat.reduceLT, Nat.reduceBEq, Nat.reduceLeDiff, Nat.reduceSub]
  refine ITri.seq ?_
  refine ITri.reg pok ?_; simp -implicitDefEqProofs (disch := first | decide | exact of_eq_true (eq_true rfl) | omega | assumption) only [ ↓vcD, vcE, ↓vcG, vcF, evs, evP, evB, intsOf, fillC, Value.cells, pt, Value.oneCell', reduceIte, reduceCtorEq, Nat.reduceEqDiff, Nat.reduceAdd, Nat.reduceMul, Nat.reduceLT, Nat.reduceBEq, Nat.reduceLeDiff, Nat.reduceSub]
  refine ⟨_, _, indexR_f g p HG n xs hn hb (sees0 rfl (of_decide_eq_true rfl)) (Rd.hq rfl rfl), ?_⟩
  try simp -implicitDefEqProofs (disch := first | decide | exact of_eq_true (eq_true rfl) | omega | assumption) only [ ↓vcD, vcE, ↓vcG, vcF, evs, evP, evB, intsOf, fillC, Value.cells, pt, Value.oneCell', reduceIte, reduceCtorEq, Nat.reduceEqDiff, Nat.reduceAdd, Nat.reduceMul, Nat.reduceLT, Nat.reduceBEq, Nat.reduceLeDiff, Nat.reduceSub]
  refine ITri.ret ?_; exact EndR.plain (by simp) (by rfl) (by rw [idxF_any]; rfl) (by rfl)

/-- What is no number. -/
def farB (n : Int) : Bool := decide (n < -1000000000000000) || decide (1000000000000000 < n)
theorem is1_f (n : Int) (h : AH) (h0 : h.sees 0 = true) : Fc Try.prog 66 [.int .i64 n] h (.bool (farB n)) h := by
  refine Fc.lift0 ?_ rfl rfl h0
  refine Fc.intro0 fn66 (by simp) rfl rfl ?_; simp only [argF]
  refine ITri.seq ?_
  refine ITri.reg pok ?_; simp -implicitDefEqProofs (disch := first | decide | exact of_eq_true (eq_true rfl) | omega | assumption) only [ ↓vcD, vcE, ↓vcG, vcF, evs, evP, evB, intsOf, fillC, Value.cells, pt, Value.oneCell', reduceIte, reduceCtorEq, Nat.reduceEqDiff, Nat.reduceAdd, Nat.reduceMul, Nat.reduceLT, Nat.reduceBEq, Nat.reduceLeDiff, Nat.reduceSub]
  refine ITri.seq ?_
  by_cases g : n < -1000000000000000
  · refine ITri.reg pok ?_; simp -implicitDefEqProofs (disch := first | decide | exact of_eq_true (eq_true rfl) | omega | assumption) only [g, decide_true,  ↓vcD, vcE, ↓vcG, vcF, evs, evP, evB, intsOf, fillC, Value.cells, pt, Value.oneCell', reduceIte, reduceCtorEq, Nat.reduceEqDiff, Nat.reduceAdd, Nat.reduceMul, Nat.reduceLT, Nat.reduceBEq, Nat.reduceLeDiff, Nat.reduceSub]
    refine ITri.ret ?_; exact EndR.plain (by simp) (by rfl) (by unfold farB; rw [decide_eq_true g]; rfl) (by rfl)
  · refine ITri.reg pok ?_; simp -implicitDefEqProofs (disch := first | decide | exact of_eq_true (eq_true rfl) | omega | assumption) only [g, decide_false,  ↓vcD, vcE, ↓vcG, vcF, evs, evP, evB, intsOf, fillC, Value.cells, pt, Value.oneCell', reduceIte, reduceCtorEq, Nat.reduceEqDiff, Nat.reduceAdd, Nat.reduceMul, Nat.reduceLT, Nat.reduceBEq, Nat.reduceLeDiff, Nat.reduceSub]
    refine ITri.ret ?_; exact EndR.plain (by simp) (by rfl) (by unfold farB; rw [decide_eq_false g]; rfl) (by rfl)
theorem is_f (n : Nat) (xs : List Int) (hn : xs.length = n) (hb : n ≤ 1000000) {h : AH} {s : Value} (h0 : h.sees 0 = true) (r : Rd h s n (rows eI xs)) :
    Fc Try.prog 53 [s] h (.bool (!xs.any farB)) h := by
  refine Fc.lift1 (mk := fun ss => ss ++ []) (mkv := fun _ => .bool (!xs.any farB)) (os := []) (fun c => ?_) (MkL.app rfl) (MkV.const rfl) (rows_no (f := eI) xs) (fun o ho => by cases ho) h0 r
  refine Fc.intro0 (h := H1 (rows eI xs)) fn53 (by simp) rfl rfl ?_; simp only [argF, List.cons_append, List.nil_append]
  refine ITri.seq ?_
  refine ITri.reg pok ?_; simp -implicitDefEqProofs (disch := first | decide | exact of_eq_true (eq_true rfl) | omega | assumption) only [ ↓vcD, vcE, ↓vcG, vcF, evs, evP, evB, intsOf, fillC, Value.cells, pt, Value.oneCell', reduceIte, reduceCtorEq, Nat.reduceEqDiff, Nat.reduceAdd, Nat.reduceMul, Nat.reduceLT, Nat.reduceBEq, Nat.reduceLeDiff, Nat.reduceSub]
  refine ITri.seq ?_
  refine ITri.reg pok ?_; simp -implicitDefEqProofs (disch := first | decide | exact of_eq_true (eq_true rfl) | omega | assumption) only [ ↓vcD, vcE, ↓vcG, vcF, evs, evP, evB, intsOf, fillC, Value.cells, pt, Value.oneCell', reduceIte, reduceCtorEq, Nat.reduceEqDiff, Nat.reduceAdd, Nat.reduceMul, Nat.reduceLT, Nat.reduceBEq, Nat.reduceLeDiff, Nat.reduceSub]
  refine ⟨_, _, containsI_f 66 farB is1_f n xs hn hb (sees0 rfl (of_decide_eq_true rfl)) (Rd.hq rfl rfl), ?_⟩
  try simp -implicitDefEqProofs (disch := first | decide | exact of_eq_true (eq_true rfl) | omega | assumption) only [ ↓vcD, vcE, ↓vcG, vcF, evs, evP, evB, intsOf, fillC, Value.cells, pt, Value.oneCell', reduceIte, reduceCtorEq, Nat.reduceEqDiff, Nat.reduceAdd, Nat.reduceMul, Nat.reduceLT, Nat.reduceBEq, Nat.reduceLeDiff, Nat.reduceSub]
  refine ITri.ret ?_; exact EndR.plain (by simp) (by rfl) (by rfl) (by rfl)
def badR (r : Int × Int) : Bool := [r.1, r.2].any farB || decide (r.2 < r.1)
theorem valid1_f (x : Int × Int) (h : AH) (h0 : h.sees 0 = true) : Fc Try.prog 54 [.agg #[.int .i64 x.1, .int .i64 x.2]] h (.bool (badR x)) h := by
  refine Fc.lift0 ?_ rfl rfl h0
  refine Fc.intro0 fn54 (by simp) rfl rfl ?_; simp only [argF]
  refine ITri.seq ?_
  refine ITri.reg pok ?_; simp -implicitDefEqProofs (disch := first | decide | exact of_eq_true (eq_true rfl) | omega | assumption) only [ ↓vcD, vcE, ↓vcG, vcF, evs, evP, evB, intsOf, fillC, Value.cells, pt, Value.oneCell', reduceIte, reduceCtorEq, Nat.reduceEqDiff, Nat.reduceAdd, Nat.reduceMul, Nat.reduceLT, Nat.reduceBEq, Nat.reduceLeDiff, Nat.reduceSub]
  refine ITri.seq ?_
  cases g : [x.1, x.2].any farB with
  | true =>
    refine ITri.reg pok ?_; simp -implicitDefEqProofs (disch := first | decide | exact of_eq_true (eq_true rfl) | omega | assumption) only [ ↓vcD, vcE, ↓vcG, vcF, evs, evP, evB, intsOf, fillC, Value.cells, pt, Value.oneCell', reduceIte, reduceCtorEq, Nat.reduceEqDiff, Nat.reduceAdd, Nat.reduceMul, Nat.reduceLT, Nat.reduceBEq, Nat.reduceLeDiff, Nat.reduceSub]
    refine ⟨_, _, is_f 2 [x.1, x.2] rfl (by omega) (sees0 rfl (of_decide_eq_true rfl)) (Rd.hq rfl rfl), ?_⟩
    simp -implicitDefEqProofs (disch := first | decide | exact of_eq_true (eq_true rfl) | omega | assumption) only [g,  ↓vcD, vcE, ↓vcG, vcF, evs, evP, evB, intsOf, fillC, Value.cells, pt, Value.oneCell', reduceIte, reduceCtorEq, Nat.reduceEqDiff, Nat.reduceAdd, Nat.reduceMul, Nat.reduceLT, Nat.reduceBEq, Nat.reduceLeDiff, Nat.reduceSub]
    refine ITri.ret ?_; exact EndR.plain (by simp) (by rfl) (by unfold badR; rw [g]; rfl) (by rfl)
  | false =>
    refine ITri.reg pok ?_; simp -implicitDefEqProofs (disch := first | decide | exact of_eq_true (eq_true rfl) | omega | assumption) only [ ↓vcD, vcE, ↓vcG, vcF, evs, evP, evB, intsOf, fillC, Value.cells, pt, Value.oneCell', reduceIte, reduceCtorEq, Nat.reduceEqDiff, Nat.reduceAdd, Nat.reduceMul, Nat.reduceLT, Nat.reduceBEq, Nat.reduceLeDiff, Nat.reduceSub]
    refine ⟨_, _, is_f 2 [x.1, x.2] rfl (by omega) (sees0 rfl (of_decide_eq_true rfl)) (Rd.hq rfl rfl), ?_⟩
    simp -implicitDefEqProofs (disch := first | decide | exact of_eq_true (eq_true rfl) | omega | assumption) only [g,  ↓vcD, vcE, ↓vcG, vcF, evs, evP, evB, intsOf, fillC, Value.cells, pt, Value.oneCell', reduceIte, reduceCtorEq, Nat.reduceEqDiff, Nat.reduceAdd, Nat.reduceMul, Nat.reduceLT, Nat.reduceBEq, Nat.reduceLeDiff, Nat.reduceSub]
    refine ITri.ret ?_; exact EndR.plain (by simp) (by rfl) (by unfold badR; rw [g]; rfl) (by rfl)
theorem valid_f (n : Nat) (xs : List (Int × Int)) (hn : xs.length = n) (hb : n ≤ 1000000) {h : AH} {s : Value} (h0 : h.sees 0 = true) (r : Rd h s n (rows eII xs)) :
    Fc Try.prog 34 [s] h (.bool (!xs.any badR)) h := by
  refine Fc.lift1 (mk := fun ss => ss ++ []) (mkv := fun _ => .bool (!xs.any badR)) (os := []) (fun c => ?_) (MkL.app rfl) (MkV.const rfl) (rows_no (f := eII) xs) (fun o ho => by cases ho) h0 r
  refine Fc.intro0 (h := H1 (rows eII xs)) fn34 (by simp) rfl rfl ?_; simp only [argF, List.cons_append, List.nil_append]
  refine ITri.seq ?_
  refine ITri.reg pok ?_; simp -implicitDefEqProofs (disch := first | decide | exact of_eq_true (eq_true rfl) | omega | assumption) only [ ↓vcD, vcE, ↓vcG, vcF, evs, evP, evB, intsOf, fillC, Value.cells, pt, Value.oneCell', reduceIte, reduceCtorEq, Nat.reduceEqDiff, Nat.reduceAdd, Nat.reduceMul, Nat.reduceLT, Nat.reduceBEq, Nat.reduceLeDiff, Nat.reduceSub]
  refine ITri.seq ?_
  refine ITri.reg pok ?_; simp -implicitDefEqProofs (disch := first | decide | exact of_eq_true (eq_true rfl) | omega | assumption) only [ ↓vcD, vcE, ↓vcG, vcF, evs, evP, evB, intsOf, fillC, Value.cells, pt, Value.oneCell', reduceIte, reduceCtorEq, Nat.reduceEqDiff, Nat.reduceAdd, Nat.reduceMul, Nat.reduceLT, Nat.reduceBEq, Nat.reduceLeDiff, Nat.reduceSub]
  refine ⟨_, _, containsR_f 54 badR valid1_f n xs hn hb (sees0 rfl (of_decide_eq_true rfl)) (Rd.hq rfl rfl), ?_⟩
  try simp -implicitDefEqProofs (disch := first | decide | exact of_eq_true (eq_true rfl) | omega | assumption) only [ ↓vcD, vcE, ↓vcG, vcF, evs, evP, evB, intsOf, fillC, Value.cells, pt, Value.oneCell', reduceIte, reduceCtorEq, Nat.reduceEqDiff, Nat.reduceAdd, Nat.reduceMul, Nat.reduceLT, Nat.reduceBEq, Nat.reduceLeDiff, Nat.reduceSub]
  refine ITri.ret ?_; exact EndR.plain (by simp) (by rfl) (by rfl) (by rfl)
theorem fits_f (a b : Int) (ha : farB a = false) (hb : farB b = false) {h : AH} (hs : h.sees 0 = true) : Fc Try.prog 32 [.int .i64 a, .int .i64 b] h (.tuple #[.agg #[.int .i64 a, .int .i64 b], .int .i64 0]) h := by
  refine Fc.lift0 ?_ rfl rfl hs
  have e : [a, b].any farB = false := by simp [ha, hb]
  refine Fc.intro0 fn32 (by simp) rfl rfl ?_; simp only [argF]
  refine ITri.seq ?_
  refine ITri.reg pok ?_; simp -implicitDefEqProofs (disch := first | decide | exact of_eq_true (eq_true rfl) | omega | assumption) only [ ↓vcD, vcE, ↓vcG, vcF, evs, evP, evB, intsOf, fillC, Value.cells, pt, Value.oneCell', reduceIte, reduceCtorEq, Nat.reduceEqDiff, Nat.reduceAdd, Nat.reduceMul, Nat.reduceLT, Nat.reduceBEq, Nat.reduceLeDiff, Nat.reduceSub]
  refine ITri.seq ?_
  refine ITri.seq ?_
  refine ITri.reg pok ?_; simp -implicitDefEqProofs (disch := first | decide | exact of_eq_true (eq_true rfl) | omega | assumption) only [ ↓vcD, vcE, ↓vcG, vcF, evs, evP, evB, intsOf, fillC, Value.cells, pt, Value.oneCell', reduceIte, reduceCtorEq, Nat.reduceEqDiff, Nat.reduceAdd, Nat.reduceMul, Nat.reduceLT, Nat.reduceBEq, Nat.reduceLeDiff, Nat.reduceSub]
  refine ⟨_, _, is_f 2 [a, b] rfl (by omega) (sees0 rfl (of_decide_eq_true rfl)) (Rd.hq rfl rfl), ?_⟩
  simp -implicitDefEqProofs (disch := first | decide | exact of_eq_true (eq_true rfl) | omega | assumption) only [e,  ↓vcD, vcE, ↓vcG, vcF, evs, evP, evB, intsOf, fillC, Value.cells, pt, Value.oneCell', reduceIte, reduceCtorEq, Nat.reduceEqDiff, Nat.reduceAdd, Nat.reduceMul, Nat.reduceLT, Nat.reduceBEq, Nat.reduceLeDiff, Nat.reduceSub]
  refine ITri.cond (v := false) rfl (fun h => by cases h) (fun _ => ?_); refine ITri.skip ?_; simp only [SeqQ_normal, BlkQ_normal]
  refine ITri.seq ?_
  refine ITri.reg pok ?_; simp -implicitDefEqProofs (disch := first | decide | exact of_eq_true (eq_true rfl) | omega | assumption) only [ ↓vcD, vcE, ↓vcG, vcF, evs, evP, evB, intsOf, fillC, Value.cells, pt, Value.oneCell', reduceIte, reduceCtorEq, Nat.reduceEqDiff, Nat.reduceAdd, Nat.reduceMul, Nat.reduceLT, Nat.reduceBEq, Nat.reduceLeDiff, Nat.reduceSub]
  refine ITri.ret ?_; exact EndR.plain (vs := [.agg ⟨[.int .i64 a, .int .i64 b]⟩, .int .i64 0]) (by simp) (resF_agg 2 rfl (by kernel_rfl) (by simp -implicitDefEqProofs (disch := first | decide | exact of_eq_true (eq_true rfl) | omega | assumption) only [↓vcD, vcE, ↓vcG, vcF, evs, evP, evB, intsOf, fillC, Value.cells, pt, Value.oneCell', reduceIte, reduceCtorEq, Nat.reduceEqDiff, Nat.reduceAdd, Nat.reduceMul, Nat.reduceLT, Nat.reduceBEq, Nat.reduceLeDiff, Nat.reduceSub]) (resF_tmp rfl resF_nil)) (by rfl) (by rfl)
end Go.Proofs.Ytjfgbdmdnejhdaa
