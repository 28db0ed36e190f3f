/-
  Chapter 10 at the top: the regions of a place, by names.
-/
import Derived.Test.YtfbkbkgjmpbmaaaDoorTrF
set_option linter.unusedSimpArgs false
set_option linter.unusedVariables false
namespace Go.Proofs.YtfbkbkgjmpbmaaaDoor
open Go.RowKit Go.Vm
set_option maxRecDepth 1000000
abbrev I6 (n : Int) : Value := .int .i64 n
def rgB (lo hi le mo : Int) : Bool := decide (le ≤ lo) && (decide (lo ≤ hi) && decide (hi ≤ mo))
/- boule/defect.isRange · slots 24 · names 0:r 1:least 2:most 3:r 4:least 5:most · results [6] -/
def ir19_r0 : IC := .reg [⟨some 3, none, false, .box (.t 0)⟩,
  ⟨some 6, none, false, .mv (.k (.bool false))⟩] (some [1, 2, 3])
def ir19_r1 : IC := .reg [⟨some 7, none, false, .fad 0 (.t 3)⟩,
  ⟨some 8, none, false, .ldc (.t 7)⟩,
  ⟨some 9, none, false, .mv (.t 1)⟩,
  ⟨some 10, none, false, .cmp .geq (.t 8) (.t 9)⟩,
  ⟨some 11, none, false, .mv (.t 10)⟩,
  ⟨some 12, some (11, true), false, .fad 0 (.t 3)⟩,
  ⟨some 13, some (11, true), false, .ldc (.t 12)⟩,
  ⟨some 14, some (11, true), false, .fad 1 (.t 3)⟩,
  ⟨some 15, some (11, true), false, .ldc (.t 14)⟩,
  ⟨some 16, some (11, true), false, .cmp .leq (.t 13) (.t 15)⟩,
  ⟨some 17, none, false, .pick (.t 11) (.t 16) (.k (.bool false))⟩,
  ⟨some 18, none, false, .mv (.t 17)⟩,
  ⟨some 19, some (18, true), false, .fad 1 (.t 3)⟩,
  ⟨some 20, some (18, true), false, .ldc (.t 19)⟩,
  ⟨some 21, some (18, true), false, .mv (.t 2)⟩,
  ⟨some 22, some (18, true), false, .cmp .leq (.t 20) (.t 21)⟩,
  ⟨some 23, none, false, .pick (.t 18) (.t 22) (.k (.bool false))⟩,
  ⟨some 6, none, false, .mv (.t 23)⟩] (some [6])
def ir19_1 : IC := .seq ir19_r1 .ret
def ir19_2 : IC := .seq ir19_r0 ir19_1
def ir19 : IC := ir19_2
theorem fn19 : FnIs Tryd.prog 19 ir19 24 [.tmp 6] := ⟨Tryd.f19, Tryd.f19.body.getD .skip, Tryd.func19, by kernel_rfl, by kernel_rfl, by kernel_rfl, by kernel_rfl⟩
/- boule/defect.isRate · slots 5 · names 0:r 1:r · results [2] -/
def ir12_r0 : IC := .reg [⟨some 1, none, false, .box (.t 0)⟩,
  ⟨some 2, none, false, .mv (.k (.bool false))⟩] (some [1])
def ir12_r1 : IC := .reg [⟨some 3, none, false, .lda 2 (.t 1)⟩,
  ⟨some 4, none, false, .call (.f 19) [(.t 3), (.k (.int .i64 0)), (.k (.int .i64 1000000))]⟩,
  ⟨some 2, none, false, .mv (.t 4)⟩] (some [2])
def ir12_1 : IC := .seq ir12_r1 .ret
def ir12_2 : IC := .seq ir12_r0 ir12_1
def ir12 : IC := ir12_2
theorem fn12 : FnIs Tryd.prog 12 ir12 5 [.tmp 2] := ⟨Tryd.f12, Tryd.f12.body.getD .skip, Tryd.func12, by kernel_rfl, by kernel_rfl, by kernel_rfl, by kernel_rfl⟩
/- boule/defect.isGradient · slots 5 · names 0:r 1:r · results [2] -/
def ir13_r0 : IC := .reg [⟨some 1, none, false, .box (.t 0)⟩,
  ⟨some 2, none, false, .mv (.k (.bool false))⟩] (some [1])
def ir13_r1 : IC := .reg [⟨some 3, none, false, .lda 2 (.t 1)⟩,
  ⟨some 4, none, false, .call (.f 19) [(.t 3), (.k (.int .i64 1)), (.k (.int .i64 1000000))]⟩,
  ⟨some 2, none, false, .mv (.t 4)⟩] (some [2])
def ir13_1 : IC := .seq ir13_r1 .ret
def ir13_2 : IC := .seq ir13_r0 ir13_1
def ir13 : IC := ir13_2
theorem fn13 : FnIs Tryd.prog 13 ir13 5 [.tmp 2] := ⟨Tryd.f13, Tryd.f13.body.getD .skip, Tryd.func13, by kernel_rfl, by kernel_rfl, by kernel_rfl, by kernel_rfl⟩
/- boule/defect.CheckModel · slots 38 · names 0:m 1:m 3:before 4:_ 5:b · results [2] -/
def ir11_r0 : IC := .reg [⟨some 1, none, false, .box (.t 0)⟩,
  ⟨some 2, none, false, .mv (.k (.int .i64 0))⟩] (some [1])
def ir11_r1 : IC := .reg [⟨some 6, none, false, .fad 0 (.t 1)⟩,
  ⟨some 7, none, false, .ldc (.t 6)⟩,
  ⟨some 8, none, false, .cmp .lss (.t 7) (.k (.int .i64 1))⟩,
  ⟨some 9, none, false, .mv (.t 8)⟩,
  ⟨some 10, some (9, false), false, .fad 0 (.t 1)⟩,
  ⟨some 11, some (9, false), false, .ldc (.t 10)⟩,
  ⟨some 12, some (9, false), false, .cmp .gtr (.t 11) (.k (.int .i64 1000000))⟩,
  ⟨some 13, none, false, .pick (.t 9) (.k (.bool true)) (.t 12)⟩] (some [1, 13])
def ir11_r2 : IC := .reg [⟨some 2, none, false, .mv (.k (.int .i64 2))⟩] (some [2])
def ir11_1 : IC := .seq ir11_r2 .ret
def ir11_2 : IC := .cond (.t 13) ir11_1 .skip
def ir11_3 : IC := .seq ir11_r1 ir11_2
def ir11_r3 : IC := .reg [⟨some 3, none, false, .alloc [(.int .i64 0), (.int .i64 0)]⟩] (some [1, 3])
def ir11_r4 : IC := .reg [⟨some 14, none, false, .fad 1 (.t 1)⟩,
  ⟨some 15, none, false, .lda 8 (.t 14)⟩,
  ⟨some 16, none, false, .mv (.k (.int .i64 0))⟩] (some [3, 15, 16])
def ir11_r5 : IC := .reg [⟨some 17, none, false, .cmp .lss (.t 16) (.k (.int .i64 4))⟩] (some [3, 15, 16, 17])
def ir11_4 : IC := .cond (.t 17) .skip (.exit 0)
def ir11_r6 : IC := .reg [⟨some 18, none, false, .gen (.index 24 (.tmp 15) (.tmp 16))⟩,
  ⟨some 5, none, false, .alloc [(.int .i64 0), (.int .i64 0)]⟩,
  ⟨none, none, false, .st 2 (.t 5) (.t 18)⟩] (some [3, 5, 15, 16])
def ir11_r7 : IC := .reg [⟨some 19, none, false, .lda 2 (.t 5)⟩,
  ⟨some 20, none, false, .call (.f 19) [(.t 19), (.k (.int .i64 0)), (.k (.int .i64 1000000))]⟩,
  ⟨some 21, none, false, .not (.t 20)⟩,
  ⟨some 22, none, false, .mv (.t 21)⟩,
  ⟨some 23, some (22, false), false, .fad 0 (.t 5)⟩,
  ⟨some 24, some (22, false), false, .ldc (.t 23)⟩,
  ⟨some 25, some (22, false), false, .fad 0 (.t 3)⟩,
  ⟨some 26, some (22, false), false, .ldc (.t 25)⟩,
  ⟨some 27, some (22, false), false, .cmp .lss (.t 24) (.t 26)⟩,
  ⟨some 28, none, false, .pick (.t 22) (.k (.bool true)) (.t 27)⟩,
  ⟨some 29, none, false, .mv (.t 28)⟩,
  ⟨some 30, some (29, false), false, .fad 1 (.t 5)⟩,
  ⟨some 31, some (29, false), false, .ldc (.t 30)⟩,
  ⟨some 32, some (29, false), false, .fad 1 (.t 3)⟩,
  ⟨some 33, some (29, false), false, .ldc (.t 32)⟩,
  ⟨some 34, some (29, false), false, .cmp .lss (.t 31) (.t 33)⟩,
  ⟨some 35, none, false, .pick (.t 29) (.k (.bool true)) (.t 34)⟩] (some [3, 5, 15, 16, 35])
def ir11_r8 : IC := .reg [⟨some 2, none, false, .mv (.k (.int .i64 2))⟩] (some [2])
def ir11_5 : IC := .seq ir11_r8 .ret
def ir11_6 : IC := .cond (.t 35) ir11_5 .skip
def ir11_7 : IC := .seq ir11_r7 ir11_6
def ir11_r9 : IC := .reg [⟨some 36, none, false, .lda 2 (.t 5)⟩,
  ⟨none, none, false, .st 2 (.t 3) (.t 36)⟩] (some [3, 15, 16])
def ir11_8 : IC := .seq ir11_7 ir11_r9
def ir11_9 : IC := .seq ir11_r6 ir11_8
def ir11_10 : IC := .block 1 ir11_9
def ir11_r10 : IC := .reg [⟨some 37, none, false, .ar .add (.t 16) (.k (.int .i64 1))⟩,
  ⟨some 16, none, false, .mv (.t 37)⟩] (some [3, 15, 16])
def ir11_11 : IC := .seq ir11_10 ir11_r10
def ir11_12 : IC := .seq ir11_4 ir11_11
def ir11_13 : IC := .seq ir11_r5 ir11_12
def ir11_14 : IC := .loop ir11_13
def ir11_15 : IC := .block 0 ir11_14
def ir11_16 : IC := .seq ir11_r4 ir11_15
def ir11_r11 : IC := .reg [⟨some 2, none, false, .mv (.k (.int .i64 0))⟩] (some [2])
def ir11_17 : IC := .seq ir11_r11 .ret
def ir11_18 : IC := .seq ir11_16 ir11_17
def ir11_19 : IC := .seq ir11_r3 ir11_18
def ir11_20 : IC := .seq ir11_3 ir11_19
def ir11_21 : IC := .seq ir11_r0 ir11_20
def ir11 : IC := ir11_21
theorem fn11 : FnIs Tryd.prog 11 ir11 38 [.tmp 2] := ⟨Tryd.f11, Tryd.f11.body.getD .skip, Tryd.func11, by kernel_rfl, by kernel_rfl, by kernel_rfl, by kernel_rfl⟩
section
variable {lo hi le mo sc rl rh gl gh : Int} {bs : List Int} {h : AH}
theorem rg_c : Fc Tryd.prog 19 [.agg #[I6 lo, I6 hi], I6 le, I6 mo] (Hp 1 [none]) (.bool (rgB lo hi le mo)) (Hp 1 [none]) := by
  refine Fc.intro0 fn19 (by simp) rfl rfl ?_; simp only [argF]
  refine ITri.seq ?_
  refine ITri.reg pok ?_; simp -implicitDefEqProofs (disch := first | decide | exact of_eq_true (eq_true rfl) | omega | assumption) only [ ↓vcD, vcE, ↓vcG, vcF, evs, evP, evB, intsOf, fillC, Value.cells, pt, Value.oneCell', reduceIte, reduceCtorEq, Nat.reduceEqDiff, Nat.reduceAdd, Nat.reduceMul, Nat.reduceLT, Nat.reduceBEq, Nat.reduceLeDiff, Nat.reduceSub] -- r0
  refine ITri.seq ?_
  unfold rgB
  by_cases h1 : lo ≥ le
  · by_cases h2 : lo ≤ hi
    · by_cases h3 : hi ≤ mo
      · rw [decide_eq_true (show le ≤ lo from h1), decide_eq_true h2, decide_eq_true h3]
        refine ITri.reg pok ?_; simp -implicitDefEqProofs (disch := first | decide | exact of_eq_true (eq_true rfl) | omega | assumption) only [h1, h2, h3, decide_true,  ↓vcD, vcE, ↓vcG, vcF, evs, evP, evB, intsOf, fillC, Value.cells, pt, Value.oneCell', reduceIte, reduceCtorEq, Nat.reduceEqDiff, Nat.reduceAdd, Nat.reduceMul, Nat.reduceLT, Nat.reduceBEq, Nat.reduceLeDiff, Nat.reduceSub] -- r1
        refine ITri.ret ?_; exact EndR.plain (by simp) (by rfl) (by rfl) (by rfl)
      · rw [decide_eq_true (show le ≤ lo from h1), decide_eq_true h2, decide_eq_false h3]
        refine ITri.reg pok ?_; simp -implicitDefEqProofs (disch := first | decide | exact of_eq_true (eq_true rfl) | omega | assumption) only [h1, h2, h3, decide_true, decide_false,  ↓vcD, vcE, ↓vcG, vcF, evs, evP, evB, intsOf, fillC, Value.cells, pt, Value.oneCell', reduceIte, reduceCtorEq, Nat.reduceEqDiff, Nat.reduceAdd, Nat.reduceMul, Nat.reduceLT, Nat.reduceBEq, Nat.reduceLeDiff, Nat.reduceSub] -- r1
        refine ITri.ret ?_; exact EndR.plain (by simp) (by rfl) (by rfl) (by rfl)
    · rw [decide_eq_true (show le ≤ lo from h1), decide_eq_false h2]
      refine ITri.reg pok ?_; simp -implicitDefEqProofs (disch := first | decide | exact of_eq_true (eq_true rfl) | omega | assumption) only [h1, h2, decide_true, decide_false,  ↓vcD, vcE, ↓vcG, vcF, evs, evP, evB, intsOf, fillC, Value.cells, pt, Value.oneCell', reduceIte, reduceCtorEq, Nat.reduceEqDiff, Nat.reduceAdd, Nat.reduceMul, Nat.reduceLT, Nat.reduceBEq, Nat.reduceLeDiff, Nat.reduceSub] -- r1
      refine ITri.ret ?_; exact EndR.plain (by simp) (by rfl) (by rfl) (by rfl)
  · rw [decide_eq_false (show ¬ le ≤ lo from h1)]
    refine ITri.reg pok ?_; simp -implicitDefEqProofs (disch := first | decide | exact of_eq_true (eq_true rfl) | omega | assumption) only [h1, decide_false,  ↓vcD, vcE, ↓vcG, vcF, evs, evP, evB, intsOf, fillC, Value.cells, pt, Value.oneCell', reduceIte, reduceCtorEq, Nat.reduceEqDiff, Nat.reduceAdd, Nat.reduceMul, Nat.reduceLT, Nat.reduceBEq, Nat.reduceLeDiff, Nat.reduceSub] -- r1
    refine ITri.ret ?_; exact EndR.plain (by simp) (by rfl) (by rfl) (by rfl)
theorem rg_f (h0 : h.sees 0 = true) : Fc Tryd.prog 19 [.agg #[I6 lo, I6 hi], I6 le, I6 mo] h (.bool (rgB lo hi le mo)) h := Fc.lift0 rg_c rfl rfl h0
theorem rate_c : Fc Tryd.prog 12 [.agg #[I6 lo, I6 hi]] (Hp 1 [none]) (.bool (rgB lo hi 0 1000000)) (Hp 1 [none]) := by
  refine Fc.intro0 fn12 (by simp) rfl rfl ?_; simp only [argF]
  refine ITri.seq ?_
  refine ITri.reg pok ?_; simp -implicitDefEqProofs (disch := first | decide | exact of_eq_true (eq_true rfl) | omega | assumption) only [ ↓vcD, vcE, ↓vcG, vcF, evs, evP, evB, intsOf, fillC, Value.cells, pt, Value.oneCell', reduceIte, reduceCtorEq, Nat.reduceEqDiff, Nat.reduceAdd, Nat.reduceMul, Nat.reduceLT, Nat.reduceBEq, Nat.reduceLeDiff, Nat.reduceSub] -- r0
  refine ITri.seq ?_
  refine ITri.reg pok ?_; simp -implicitDefEqProofs (disch := first | decide | exact of_eq_true (eq_true rfl) | omega | assumption) only [ ↓vcD, vcE, ↓vcG, vcF, evs, evP, evB, intsOf, fillC, Value.cells, pt, Value.oneCell', reduceIte, reduceCtorEq, Nat.reduceEqDiff, Nat.reduceAdd, Nat.reduceMul, Nat.reduceLT, Nat.reduceBEq, Nat.reduceLeDiff, Nat.reduceSub] -- r1
  refine ⟨_, _, rg_f (sees0 rfl (of_decide_eq_true rfl)), ?_⟩
  try simp -implicitDefEqProofs (disch := first | decide | exact of_eq_true (eq_true rfl) | omega | assumption) only [ ↓vcD, vcE, ↓vcG, vcF, evs, evP, evB, intsOf, fillC, Value.cells, pt, Value.oneCell', reduceIte, reduceCtorEq, Nat.reduceEqDiff, Nat.reduceAdd, Nat.reduceMul, Nat.reduceLT, Nat.reduceBEq, Nat.reduceLeDiff, Nat.reduceSub]
  refine ITri.ret ?_; exact EndR.plain (by simp) (by rfl) (by rfl) (by rfl)
theorem grad_c : Fc Tryd.prog 13 [.agg #[I6 lo, I6 hi]] (Hp 1 [none]) (.bool (rgB lo hi 1 1000000)) (Hp 1 [none]) := by
  refine Fc.intro0 fn13 (by simp) rfl rfl ?_; simp only [argF]
  refine ITri.seq ?_
  refine ITri.reg pok ?_; simp -implicitDefEqProofs (disch := first | decide | exact of_eq_true (eq_true rfl) | omega | assumption) only [ ↓vcD, vcE, ↓vcG, vcF, evs, evP, evB, intsOf, fillC, Value.cells, pt, Value.oneCell', reduceIte, reduceCtorEq, Nat.reduceEqDiff, Nat.reduceAdd, Nat.reduceMul, Nat.reduceLT, Nat.reduceBEq, Nat.reduceLeDiff, Nat.reduceSub] -- r0
  refine ITri.seq ?_
  refine ITri.reg pok ?_; simp -implicitDefEqProofs (disch := first | decide | exact of_eq_true (eq_true rfl) | omega | assumption) only [ ↓vcD, vcE, ↓vcG, vcF, evs, evP, evB, intsOf, fillC, Value.cells, pt, Value.oneCell', reduceIte, reduceCtorEq, Nat.reduceEqDiff, Nat.reduceAdd, Nat.reduceMul, Nat.reduceLT, Nat.reduceBEq, Nat.reduceLeDiff, Nat.reduceSub] -- r1
  refine ⟨_, _, rg_f (sees0 rfl (of_decide_eq_true rfl)), ?_⟩
  try simp -implicitDefEqProofs (disch := first | decide | exact of_eq_true (eq_true rfl) | omega | assumption) only [ ↓vcD, vcE, ↓vcG, vcF, evs, evP, evB, intsOf, fillC, Value.cells, pt, Value.oneCell', reduceIte, reduceCtorEq, Nat.reduceEqDiff, Nat.reduceAdd, Nat.reduceMul, Nat.reduceLT, Nat.reduceBEq, Nat.reduceLeDiff, Nat.reduceSub]
  refine ITri.ret ?_; exact EndR.plain (by simp) (by rfl) (by rfl) (by rfl)
theorem rate_f (h0 : h.sees 0 = true) : Fc Tryd.prog 12 [.agg #[I6 lo, I6 hi]] h (.bool (rgB lo hi 0 1000000)) h := Fc.lift0 rate_c rfl rfl h0
theorem grad_f (h0 : h.sees 0 = true) : Fc Tryd.prog 13 [.agg #[I6 lo, I6 hi]] h (.bool (rgB lo hi 1 1000000)) h := Fc.lift0 grad_c rfl rfl h0
def mL (sc : Int) (bs : List Int) : List Value := I6 sc :: bs.map I6
theorem four {p : Nat → Prop} (h0 : p 0) (h1 : p 1) (h2 : p 2) (h3 : p 3) : ∀ i, i < 4 → p i
  | 0, _ => h0
  | 1, _ => h1
  | 2, _ => h2
  | 3, _ => h3
  | n + 4, h => absurd h (by omega)
theorem bs8 {p : List Int → Prop} (h : ∀ a b c d e f g i : Int, p [a, b, c, d, e, f, g, i]) : ∀ bs : List Int, bs.length = 8 → p bs
  | [a, b, c, d, e, f, g, i], _ => h a b c d e f g i
theorem idx_b : ∀ bs : List Int, bs.length = 8 → ∀ i, i < 4 → aIndex Tryd.prog 24 (.agg ⟨bs.map I6⟩) (.int .i64 (i : Nat)) = some (.agg ⟨[I6 (nb bs (2 * i)), I6 (nb bs (2 * i + 1))]⟩) :=
  bs8 fun a b c d e f g i => four (by kernel_rfl) (by kernel_rfl) (by kernel_rfl) (by kernel_rfl)
theorem tk_m : ∀ bs : List Int, bs.length = 8 → takeC (mL sc bs) 0 9 = some (mL sc bs) ∧ takeC (mL sc bs) 1 8 = some (bs.map I6) := bs8 fun a b c d e f g i => ⟨rfl, rfl⟩
theorem m_0 : (mL sc bs)[0]? = some (I6 sc) := rfl
theorem m_lo : ∀ bs : List Int, bs.length = 8 → ∀ i, i < 4 → (mL sc bs)[1 + i * 2]? = some (I6 (nb bs (2 * i))) := bs8 fun a b c d e f g i => four rfl rfl rfl rfl
theorem m_hi : ∀ bs : List Int, bs.length = 8 → ∀ i, i < 4 → (mL sc bs)[1 + i * 2 + 1]? = some (I6 (nb bs (2 * i + 1))) := bs8 fun a b c d e f g i => four rfl rfl rfl rfl
structure MS where
  i : Nat
  M : List (Option AObj)
/-- The borders up to one are in order; the last one stands in its box. -/
def upTo (bs : List Int) (i : Nat) : Prop := (∀ j, j < i → 0 ≤ nb bs (2 * j) ∧ nb bs (2 * j) ≤ nb bs (2 * j + 1) ∧ nb bs (2 * j + 1) ≤ 1000000) ∧ (∀ j, j + 1 < i → nb bs (2 * j) ≤ nb bs (2 * (j + 1)) ∧ nb bs (2 * j + 1) ≤ nb bs (2 * (j + 1) + 1))
def befV (bs : List Int) (i : Nat) : List Value := if i = 0 then [I6 0, I6 0] else [I6 (nb bs (2 * (i - 1))), I6 (nb bs (2 * (i - 1) + 1))]
def MI (bs : List Int) (x : MS) : Prop := x.i ≤ 4 ∧ x.M[2]? = some (some (.cells ⟨befV bs x.i, 1, false⟩)) ∧ upTo bs x.i
theorem model_c {e : Int} (hl : bs.length = 8) (he : (okM sc bs ∧ e = 0) ∨ (¬ okM sc bs ∧ e = 2)) : Fc Tryd.prog 11 [.agg ⟨mL sc bs⟩] (Hp 1 [none]) (.int .i64 e) (Hp 1 [none]) := by
  refine Fc.intro0 fn11 (by simp) rfl rfl ?_; simp only [argF]
  obtain ⟨t1, t2⟩ := tk_m (sc := sc) bs hl
  have m0 := @m_0 sc bs
  have bad : (okM sc bs → False) → e = 2 := fun h => by
    rcases he with ⟨h1, _⟩ | ⟨_, h2⟩
    · exact absurd h1 h
    · exact h2
  refine ITri.seq ?_
  refine ITri.reg pok ?_; simp -implicitDefEqProofs (disch := first | decide | exact of_eq_true (eq_true rfl) | omega | assumption) only [ ↓vcD, vcE, ↓vcG, vcF, evs, evP, evB, intsOf, fillC, Value.cells, pt, Value.oneCell', reduceIte, reduceCtorEq, Nat.reduceEqDiff, Nat.reduceAdd, Nat.reduceMul, Nat.reduceLT, Nat.reduceBEq, Nat.reduceLeDiff, Nat.reduceSub] -- r0
  refine ITri.seq ?_
  refine ITri.seq ?_
  by_cases c1 : sc < 1
  · obtain rfl := bad fun h => by have := h.s1; omega
    refine ITri.reg pok ?_; simp -implicitDefEqProofs (disch := first | decide | exact of_eq_true (eq_true rfl) | omega | assumption) only [m0, c1, decide_true,  ↓vcD, vcE, ↓vcG, vcF, evs, evP, evB, intsOf, fillC, Value.cells, pt, Value.oneCell', reduceIte, reduceCtorEq, Nat.reduceEqDiff, Nat.reduceAdd, Nat.reduceMul, Nat.reduceLT, Nat.reduceBEq, Nat.reduceLeDiff, Nat.reduceSub] -- r1
    refine ITri.cond (v := true) rfl (fun _ => ?_) (fun h => by cases h)
    refine ITri.seq ?_
    refine ITri.reg pok ?_; simp -implicitDefEqProofs (disch := first | decide | exact of_eq_true (eq_true rfl) | omega | assumption) only [ ↓vcD, vcE, ↓vcG, vcF, evs, evP, evB, intsOf, fillC, Value.cells, pt, Value.oneCell', reduceIte, reduceCtorEq, Nat.reduceEqDiff, Nat.reduceAdd, Nat.reduceMul, Nat.reduceLT, Nat.reduceBEq, Nat.reduceLeDiff, Nat.reduceSub] -- r2
    refine ITri.ret ?_; exact EndR.plain (by simp) (by rfl) (by rfl) (by rfl)
  by_cases c2 : sc > 1000000
  · obtain rfl := bad fun h => by have := h.s2; omega
    refine ITri.reg pok ?_; simp -implicitDefEqProofs (disch := first | decide | exact of_eq_true (eq_true rfl) | omega | assumption) only [m0, c1, c2, decide_true, decide_false,  ↓vcD, vcE, ↓vcG, vcF, evs, evP, evB, intsOf, fillC, Value.cells, pt, Value.oneCell', reduceIte, reduceCtorEq, Nat.reduceEqDiff, Nat.reduceAdd, Nat.reduceMul, Nat.reduceLT, Nat.reduceBEq, Nat.reduceLeDiff, Nat.reduceSub] -- r1
    refine ITri.cond (v := true) rfl (fun _ => ?_) (fun h => by cases h)
    refine ITri.seq ?_
    refine ITri.reg pok ?_; simp -implicitDefEqProofs (disch := first | decide | exact of_eq_true (eq_true rfl) | omega | assumption) only [ ↓vcD, vcE, ↓vcG, vcF, evs, evP, evB, intsOf, fillC, Value.cells, pt, Value.oneCell', reduceIte, reduceCtorEq, Nat.reduceEqDiff, Nat.reduceAdd, Nat.reduceMul, Nat.reduceLT, Nat.reduceBEq, Nat.reduceLeDiff, Nat.reduceSub] -- r2
    refine ITri.ret ?_; exact EndR.plain (by simp) (by rfl) (by rfl) (by rfl)
  refine ITri.reg pok ?_; simp -implicitDefEqProofs (disch := first | decide | exact of_eq_true (eq_true rfl) | omega | assumption) only [m0, c1, c2, decide_false,  ↓vcD, vcE, ↓vcG, vcF, evs, evP, evB, intsOf, fillC, Value.cells, pt, Value.oneCell', reduceIte, reduceCtorEq, Nat.reduceEqDiff, Nat.reduceAdd, Nat.reduceMul, Nat.reduceLT, Nat.reduceBEq, Nat.reduceLeDiff, Nat.reduceSub] -- r1
  refine ITri.cond (v := false) rfl (fun h => by cases h) (fun _ => ?_); refine ITri.skip ?_; simp only [SeqQ_normal, BlkQ_normal]
  refine ITri.seq ?_
  refine ITri.reg pok ?_; simp -implicitDefEqProofs (disch := first | decide | exact of_eq_true (eq_true rfl) | omega | assumption) only [ ↓vcD, vcE, ↓vcG, vcF, evs, evP, evB, intsOf, fillC, Value.cells, pt, Value.oneCell', reduceIte, reduceCtorEq, Nat.reduceEqDiff, Nat.reduceAdd, Nat.reduceMul, Nat.reduceLT, Nat.reduceBEq, Nat.reduceLeDiff, Nat.reduceSub] -- r3
  refine ITri.seq ?_
  refine ITri.seq ?_
  refine ITri.reg pok ?_; simp -implicitDefEqProofs (disch := first | decide | exact of_eq_true (eq_true rfl) | omega | assumption) only [t2,  ↓vcD, vcE, ↓vcG, vcF, evs, evP, evB, intsOf, fillC, Value.cells, pt, Value.oneCell', reduceIte, reduceCtorEq, Nat.reduceEqDiff, Nat.reduceAdd, Nat.reduceMul, Nat.reduceLT, Nat.reduceBEq, Nat.reduceLeDiff, Nat.reduceSub] -- r4
  refine ITri.block ?_ -- 0
  refine ITri.loop (fun x : MS => [(3, pt 2), (15, .agg ⟨bs.map I6⟩), (16, .int .i64 x.i)]) (fun _ => []) (fun x => Hp 1 x.M) (MI bs) (fun x => 4 - x.i) ⟨0, [none, some (.cells ⟨mL sc bs, 1, false⟩), some (.cells ⟨[I6 0, I6 0], 1, false⟩)]⟩ ⟨Nat.zero_le _, rfl, fun j hj => absurd hj (Nat.not_lt_zero _), fun j hj => absurd hj (Nat.not_lt_zero _)⟩ (Wk.sub ⟨rfl, rfl, rfl, trivial⟩) fun x I => ?_
  obtain ⟨i, M⟩ := x
  obtain ⟨h1, h2, h3, h4⟩ := I
  simp only at h1 h2 h3 h4
  refine ITri.seq ?_
  refine ITri.reg pok ?_; simp -implicitDefEqProofs (disch := first | decide | exact of_eq_true (eq_true rfl) | omega | assumption) only [ ↓vcD, vcE, ↓vcG, vcF, evs, evP, evB, intsOf, fillC, Value.cells, pt, Value.oneCell', reduceIte, reduceCtorEq, Nat.reduceEqDiff, Nat.reduceAdd, Nat.reduceMul, Nat.reduceLT, Nat.reduceBEq, Nat.reduceLeDiff, Nat.reduceSub] -- r5
  refine ITri.seq ?_
  refine ITri.condD (by rfl) (fun hi => ?_) (fun hi => ?_) -- %17
  · have hi4 : i < 4 := by omega
    have hi1 : (i : Int) + 1 = ((i + 1 : Nat) : Int) := by omega
    have hml := get_lt h2
    have hl1 : 1 ≤ M.length := by omega
    obtain ⟨bl, bh, hbef, hb0, hb1⟩ : ∃ bl bh, befV bs i = [I6 bl, I6 bh] ∧ (i = 0 → bl = 0 ∧ bh = 0) ∧ (i ≠ 0 → bl = nb bs (2 * (i - 1)) ∧ bh = nb bs (2 * (i - 1) + 1)) := by
      unfold befV
      by_cases h : i = 0
      · rw [if_pos h]; exact ⟨_, _, rfl, fun _ => ⟨rfl, rfl⟩, fun h2 => absurd h h2⟩
      · rw [if_neg h]; exact ⟨_, _, rfl, fun h2 => absurd h2 h, fun _ => ⟨rfl, rfl⟩⟩
    rw [hbef] at h2
    have hbn : befV bs (i + 1) = [I6 (nb bs (2 * i)), I6 (nb bs (2 * i + 1))] := by
      unfold befV
      rw [if_neg (by omega), Nat.add_sub_cancel]
    generalize hlo : nb bs (2 * i) = lo at *
    generalize hhi : nb bs (2 * i + 1) = hh at *
    have hix := idx_b bs hl i hi4
    rw [hlo, hhi] at hix
    obtain ⟨M2, hM2⟩ : ∃ M2, M ++ [some (AObj.cells ⟨[I6 lo, I6 hh], 1, false⟩)] = M2 := ⟨_, rfl⟩
    have l2 : M2.length = M.length + 1 := by rw [← hM2, List.length_append]; rfl
    have q2 : M2[2]? = some (some (.cells ⟨[I6 bl, I6 bh], 1, false⟩)) := by rw [← hM2, List.getElem?_append_left hml]; exact h2
    have q3 : M2[M.length]? = some (some (AObj.cells ⟨[I6 lo, I6 hh], 1, false⟩)) := by
      rw [← hM2, List.getElem?_append_right (Nat.le_refl _), Nat.sub_self]
      rfl
    refine ITri.skip ?_; simp only [SeqQ_normal, BlkQ_normal]
    refine ITri.seq ?_
    refine ITri.block ?_ -- 1
    refine ITri.seq ?_
    refine ITri.reg pok ?_; simp -implicitDefEqProofs (disch := first | decide | exact of_eq_true (eq_true rfl) | omega | assumption) only [ ↓vcD, vcE, ↓vcG, vcF, evs, evP, evB, intsOf, fillC, Value.cells, pt, Value.oneCell', reduceIte, reduceCtorEq, Nat.reduceEqDiff, Nat.reduceAdd, Nat.reduceMul, Nat.reduceLT, Nat.reduceBEq, Nat.reduceLeDiff, Nat.reduceSub] -- r6
    refine gen_idx rfl rfl hix ?_
    simp -implicitDefEqProofs (disch := first | decide | exact of_eq_true (eq_true rfl) | omega | assumption) only [apd_get, apd_get0, apd_set0, apd_set, List.length_append, List.append_assoc, Nat.add_assoc, hl1,  ↓vcD, vcE, ↓vcG, vcF, evs, evP, evB, intsOf, fillC, Value.cells, pt, Value.oneCell', reduceIte, reduceCtorEq, Nat.reduceEqDiff, Nat.reduceAdd, Nat.reduceMul, Nat.reduceLT, Nat.reduceBEq, Nat.reduceLeDiff, Nat.reduceSub]
    rw [hM2]
    refine ITri.seq ?_
    refine ITri.seq ?_
    refine ITri.reg pok ?_; simp -implicitDefEqProofs (disch := first | decide | exact of_eq_true (eq_true rfl) | omega | assumption) only [q3,  ↓vcD, vcE, ↓vcG, vcF, evs, evP, evB, intsOf, fillC, Value.cells, pt, Value.oneCell', reduceIte, reduceCtorEq, Nat.reduceEqDiff, Nat.reduceAdd, Nat.reduceMul, Nat.reduceLT, Nat.reduceBEq, Nat.reduceLeDiff, Nat.reduceSub] -- r7
    refine ⟨_, _, rg_f (sees0 rfl (by omega)), ?_⟩
    by_cases hrg : 0 ≤ lo ∧ lo ≤ hh ∧ hh ≤ 1000000
    · obtain ⟨g1, g2, g3⟩ := hrg
      have hr : rgB lo hh 0 1000000 = true := by unfold rgB; rw [decide_eq_true g1, decide_eq_true g2, decide_eq_true g3]; rfl
      rw [hr]
      by_cases c3 : lo < bl
      · obtain rfl := bad fun h => by
          by_cases h0 : i = 0
          · have := hb0 h0; omega
          · have h5 := hb1 h0
            have h6 := (h.up (i - 1) (by omega)).1
            rw [show i - 1 + 1 = i by omega, hlo] at h6
            omega
        simp -implicitDefEqProofs (disch := first | decide | exact of_eq_true (eq_true rfl) | omega | assumption) only [q2, q3, c3, decide_true, Bool.not_true,  ↓vcD, vcE, ↓vcG, vcF, evs, evP, evB, intsOf, fillC, Value.cells, pt, Value.oneCell', reduceIte, reduceCtorEq, Nat.reduceEqDiff, Nat.reduceAdd, Nat.reduceMul, Nat.reduceLT, Nat.reduceBEq, Nat.reduceLeDiff, Nat.reduceSub]
        refine ITri.cond (v := true) rfl (fun _ => ?_) (fun h => by cases h)
        refine ITri.seq ?_
        refine ITri.reg pok ?_; simp -implicitDefEqProofs (disch := first | decide | exact of_eq_true (eq_true rfl) | omega | assumption) only [ ↓vcD, vcE, ↓vcG, vcF, evs, evP, evB, intsOf, fillC, Value.cells, pt, Value.oneCell', reduceIte, reduceCtorEq, Nat.reduceEqDiff, Nat.reduceAdd, Nat.reduceMul, Nat.reduceLT, Nat.reduceBEq, Nat.reduceLeDiff, Nat.reduceSub] -- r8
        refine ITri.ret ?_; exact EndR.plain (by simp) (by rfl) (by rfl) (by rfl)
      by_cases c4 : hh < bh
      · obtain rfl := bad fun h => by
          by_cases h0 : i = 0
          · have := hb0 h0; omega
          · have h5 := hb1 h0
            have h6 := (h.up (i - 1) (by omega)).2
            rw [show i - 1 + 1 = i by omega, hhi] at h6
            omega
        simp -implicitDefEqProofs (disch := first | decide | exact of_eq_true (eq_true rfl) | omega | assumption) only [q2, q3, c3, c4, decide_true, decide_false, Bool.not_true,  ↓vcD, vcE, ↓vcG, vcF, evs, evP, evB, intsOf, fillC, Value.cells, pt, Value.oneCell', reduceIte, reduceCtorEq, Nat.reduceEqDiff, Nat.reduceAdd, Nat.reduceMul, Nat.reduceLT, Nat.reduceBEq, Nat.reduceLeDiff, Nat.reduceSub]
        refine ITri.cond (v := true) rfl (fun _ => ?_) (fun h => by cases h)
        refine ITri.seq ?_
        refine ITri.reg pok ?_; simp -implicitDefEqProofs (disch := first | decide | exact of_eq_true (eq_true rfl) | omega | assumption) only [ ↓vcD, vcE, ↓vcG, vcF, evs, evP, evB, intsOf, fillC, Value.cells, pt, Value.oneCell', reduceIte, reduceCtorEq, Nat.reduceEqDiff, Nat.reduceAdd, Nat.reduceMul, Nat.reduceLT, Nat.reduceBEq, Nat.reduceLeDiff, Nat.reduceSub] -- r8
        refine ITri.ret ?_; exact EndR.plain (by simp) (by rfl) (by rfl) (by rfl)
      simp -implicitDefEqProofs (disch := first | decide | exact of_eq_true (eq_true rfl) | omega | assumption) only [q2, q3, c3, c4, decide_false, Bool.not_true,  ↓vcD, vcE, ↓vcG, vcF, evs, evP, evB, intsOf, fillC, Value.cells, pt, Value.oneCell', reduceIte, reduceCtorEq, Nat.reduceEqDiff, Nat.reduceAdd, Nat.reduceMul, Nat.reduceLT, Nat.reduceBEq, Nat.reduceLeDiff, Nat.reduceSub]
      refine ITri.cond (v := false) rfl (fun h => by cases h) (fun _ => ?_); refine ITri.skip ?_; simp only [SeqQ_normal, BlkQ_normal]
      have h12 : 1 ≤ 2 := by decide
      refine ITri.reg pok ?_; simp -implicitDefEqProofs (disch := first | decide | exact of_eq_true (eq_true rfl) | omega | assumption) only [q2, q3, h12,  ↓vcD, vcE, ↓vcG, vcF, evs, evP, evB, intsOf, fillC, Value.cells, pt, Value.oneCell', reduceIte, reduceCtorEq, Nat.reduceEqDiff, Nat.reduceAdd, Nat.reduceMul, Nat.reduceLT, Nat.reduceBEq, Nat.reduceLeDiff, Nat.reduceSub] -- r9
      refine ITri.reg pok ?_; simp -implicitDefEqProofs (disch := first | decide | exact of_eq_true (eq_true rfl) | omega | assumption) only [hi1,  ↓vcD, vcE, ↓vcG, vcF, evs, evP, evB, intsOf, fillC, Value.cells, pt, Value.oneCell', reduceIte, reduceCtorEq, Nat.reduceEqDiff, Nat.reduceAdd, Nat.reduceMul, Nat.reduceLT, Nat.reduceBEq, Nat.reduceLeDiff, Nat.reduceSub] -- r10
      refine LoopQ.next ⟨i + 1, M2.set 2 (some (AObj.cells ⟨[I6 lo, I6 hh], 1, false⟩))⟩ ⟨by show i + 1 ≤ 4; omega, ?_, fun j hj => ?_, fun j hj => ?_⟩ (by show 4 - (i + 1) < 4 - i; omega) (Wk.sub ⟨rfl, rfl, rfl, trivial⟩)
      · show (M2.set 2 _)[2]? = some (some (.cells ⟨befV bs (i + 1), 1, false⟩))
        rw [List.getElem?_set_self (by omega), hbn]
      · have hj : j < i + 1 := hj
        by_cases hji : j = i
        · subst hji; rw [hlo, hhi]; exact ⟨g1, g2, g3⟩
        · exact h3 j (by omega)
      · have hj : j + 1 < i + 1 := hj
        by_cases hji : j + 1 = i
        · obtain ⟨h5, h6⟩ := hb1 (by omega)
          rw [hji, hlo, hhi]
          rw [show i - 1 = j by omega] at h5 h6
          omega
        · exact h4 j (by omega)
    · have hr : rgB lo hh 0 1000000 = false := by
        unfold rgB
        by_cases g1 : 0 ≤ lo
        · by_cases g2 : lo ≤ hh
          · rw [decide_eq_false (show ¬ hh ≤ 1000000 from fun g3 => hrg ⟨g1, g2, g3⟩)]; simp
          · rw [decide_eq_false g2]; simp
        · rw [decide_eq_false g1]; rfl
      obtain rfl := bad fun h => by
        have h5 := h.el i hi4
        rw [hlo, hhi] at h5
        exact hrg h5
      rw [hr]
      simp -implicitDefEqProofs (disch := first | decide | exact of_eq_true (eq_true rfl) | omega | assumption) only [Bool.not_false,  ↓vcD, vcE, ↓vcG, vcF, evs, evP, evB, intsOf, fillC, Value.cells, pt, Value.oneCell', reduceIte, reduceCtorEq, Nat.reduceEqDiff, Nat.reduceAdd, Nat.reduceMul, Nat.reduceLT, Nat.reduceBEq, Nat.reduceLeDiff, Nat.reduceSub]
      refine ITri.cond (v := true) rfl (fun _ => ?_) (fun h => by cases h)
      refine ITri.seq ?_
      refine ITri.reg pok ?_; simp -implicitDefEqProofs (disch := first | decide | exact of_eq_true (eq_true rfl) | omega | assumption) only [ ↓vcD, vcE, ↓vcG, vcF, evs, evP, evB, intsOf, fillC, Value.cells, pt, Value.oneCell', reduceIte, reduceCtorEq, Nat.reduceEqDiff, Nat.reduceAdd, Nat.reduceMul, Nat.reduceLT, Nat.reduceBEq, Nat.reduceLeDiff, Nat.reduceSub] -- r8
      refine ITri.ret ?_; exact EndR.plain (by simp) (by rfl) (by rfl) (by rfl)
  refine ITri.exit ?_; try simp -implicitDefEqProofs (disch := first | decide | exact of_eq_true (eq_true rfl) | omega | assumption) only [ ↓vcD, vcE, ↓vcG, vcF, evs, evP, evB, intsOf, fillC, Value.cells, pt, Value.oneCell', reduceIte, reduceCtorEq, Nat.reduceEqDiff, Nat.reduceAdd, Nat.reduceMul, Nat.reduceLT, Nat.reduceBEq, Nat.reduceLeDiff, Nat.reduceSub] -- exit 0
  obtain rfl : i = 4 := by omega
  obtain rfl : e = 0 := by
    rcases he with ⟨_, h⟩ | ⟨h, _⟩
    · exact h
    · exact absurd ⟨by omega, by omega, fun j hj => h3 j hj, fun j hj => h4 j (by omega)⟩ h
  refine ITri.seq ?_
  refine ITri.reg pok ?_; simp -implicitDefEqProofs (disch := first | decide | exact of_eq_true (eq_true rfl) | omega | assumption) only [ ↓vcD, vcE, ↓vcG, vcF, evs, evP, evB, intsOf, fillC, Value.cells, pt, Value.oneCell', reduceIte, reduceCtorEq, Nat.reduceEqDiff, Nat.reduceAdd, Nat.reduceMul, Nat.reduceLT, Nat.reduceBEq, Nat.reduceLeDiff, Nat.reduceSub] -- r11
  refine ITri.ret ?_; exact EndR.plain (by simp) (by rfl) (by rfl) (by rfl)
end
end Go.Proofs.YtfbkbkgjmpbmaaaDoor
