/-
  Chapter 1 at the top: Sum and Less, by names.
-/
import Derived.Test.YtjfgbdmdnejhdaaThA
set_option linter.unusedSimpArgs false
set_option linter.unusedVariables false
namespace Go.Proofs.Ytjfgbdmdnejhdaa
open Go.RowKit Go.Vm
set_option maxRecDepth 100000
def pL (xs : List (Int × Int)) : Nat → Int
  | 0 => 0
  | i + 1 => pL xs i + (nth xs i).1
def pH (xs : List (Int × Int)) : Nat → Int
  | 0 => 0
  | i + 1 => pH xs i + (nth xs i).2
/-- Sums that stay numbers. -/
def sumOK (xs : List (Int × Int)) (n : Nat) : Prop := ∀ k, k ≤ n → -1000000000000000 ≤ pL xs k ∧ pL xs k ≤ 1000000000000000 ∧ -1000000000000000 ≤ pH xs k ∧ pH xs k ≤ 1000000000000000
theorem far_no {a : Int} (h1 : -1000000000000000 ≤ a) (h2 : a ≤ 1000000000000000) : farB a = false := by
  unfold farB
  rw [decide_eq_false (show ¬ a < -1000000000000000 by omega), decide_eq_false (show ¬ 1000000000000000 < a by omega)]
  rfl
theorem bad_no {a b : Int} (h1 : -1000000000000000 ≤ a) (h2 : a ≤ b) (h3 : b ≤ 1000000000000000) : badR (a, b) = false := by
  unfold badR
  rw [decide_eq_false (show ¬ b < a by omega)]
  simp [far_no h1 (show a ≤ 1000000000000000 by omega), far_no (show -1000000000000000 ≤ b by omega) h3]
/- boule/units.check · slots 11 · names 0:l 1:l · results [2] -/
def ir31_r0 : IC := .reg [⟨some 2, none, false, .mv (.k (.int .i64 0))⟩] (some [0])
def ir31_r1 : IC := .reg [⟨some 4, none, false, .mv (.t 0)⟩,
  ⟨some 5, none, false, .len (.t 4)⟩,
  ⟨some 6, none, false, .cmp .gtr (.t 5) (.k (.int .i64 100))⟩,
  ⟨some 3, none, false, .mv (.t 6)⟩] (some [0, 3])
def ir31_r2 : IC := .reg [⟨some 2, none, false, .mv (.k (.int .i64 5))⟩] (some [2])
def ir31_1 : IC := .seq ir31_r2 .ret
def ir31_r3 : IC := .reg [⟨some 8, none, false, .mv (.t 0)⟩,
  ⟨some 9, none, false, .call (.f 34) [(.t 8)]⟩,
  ⟨some 10, none, false, .not (.t 9)⟩,
  ⟨some 7, none, false, .mv (.t 10)⟩] (some [7])
def ir31_r4 : IC := .reg [⟨some 2, none, false, .mv (.k (.int .i64 2))⟩] (some [2])
def ir31_2 : IC := .seq ir31_r4 .ret
def ir31_3 : IC := .cond (.t 7) ir31_2 .skip
def ir31_4 : IC := .seq ir31_r3 ir31_3
def ir31_5 : IC := .cond (.t 3) ir31_1 ir31_4
def ir31_6 : IC := .seq ir31_r1 ir31_5
def ir31_7 : IC := .block 0 ir31_6
def ir31_r5 : IC := .reg [⟨some 2, none, false, .mv (.k (.int .i64 0))⟩] (some [2])
def ir31_8 : IC := .seq ir31_r5 .ret
def ir31_9 : IC := .seq ir31_7 ir31_8
def ir31_10 : IC := .seq ir31_r0 ir31_9
def ir31 : IC := ir31_10
theorem fn31 : FnIs Try.prog 31 ir31 11 [.tmp 2] := ⟨Try.f31, Try.f31.body.getD .skip, Try.func31, by kernel_rfl, by kernel_rfl, by kernel_rfl, by kernel_rfl⟩
/- boule/units.added · slots 23 · names 0:l 1:l 2:low 3:high 4:_ 5:r · results [2, 3] -/
def ir33_r0 : IC := .reg [⟨some 2, none, false, .mv (.k (.int .i64 0))⟩,
  ⟨some 3, none, false, .mv (.k (.int .i64 0))⟩] (some [0, 2, 3])
def ir33_r1 : IC := .reg [⟨some 6, none, false, .mv (.t 0)⟩,
  ⟨some 7, none, false, .len (.t 6)⟩,
  ⟨some 8, none, false, .mv (.k (.int .i64 0))⟩] (some [2, 3, 6, 7, 8])
def ir33_r2 : IC := .reg [⟨some 9, none, false, .cmp .lss (.t 8) (.t 7)⟩] (some [2, 3, 6, 7, 8, 9])
def ir33_1 : IC := .cond (.t 9) .skip (.exit 0)
def ir33_r3 : IC := .reg [⟨some 10, none, false, .iad 2 (.t 6) (.t 8)⟩,
  ⟨some 11, none, false, .lda 2 (.t 10)⟩,
  ⟨some 5, none, false, .alloc [(.int .i64 0), (.int .i64 0)]⟩,
  ⟨none, none, false, .st 2 (.t 5) (.t 11)⟩] (some [2, 3, 5, 6, 7, 8])
def ir33_r4 : IC := .draw [(⟨some 12, none, false, .mv (.t 2)⟩, false, 0, 0),
  (⟨some 13, none, false, .fad 0 (.t 5)⟩, false, 0, 0),
  (⟨some 14, none, false, .ldc (.t 13)⟩, false, 2, 1),
  (⟨some 15, none, false, .ar .add (.t 12) (.t 14)⟩, false, 7, 0),
  (⟨some 16, none, false, .mv (.t 3)⟩, false, 0, 0),
  (⟨some 17, none, false, .fad 1 (.t 5)⟩, false, 0, 0),
  (⟨some 18, none, false, .ldc (.t 17)⟩, false, 32, 3),
  (⟨some 19, none, false, .ar .add (.t 16) (.t 18)⟩, false, 112, 0),
  (⟨some 2, none, false, .mv (.t 15)⟩, false, 15, 0),
  (⟨some 3, none, false, .mv (.t 19)⟩, false, 511, 0)] (some [2, 3, 6, 7, 8])
def ir33_2 : IC := .seq ir33_r3 ir33_r4
def ir33_3 : IC := .block 1 ir33_2
def ir33_r5 : IC := .reg [⟨some 20, none, false, .ar .add (.t 8) (.k (.int .i64 1))⟩,
  ⟨some 8, none, false, .mv (.t 20)⟩] (some [2, 3, 6, 7, 8])
def ir33_4 : IC := .seq ir33_3 ir33_r5
def ir33_5 : IC := .seq ir33_1 ir33_4
def ir33_6 : IC := .seq ir33_r2 ir33_5
def ir33_7 : IC := .loop ir33_6
def ir33_8 : IC := .block 0 ir33_7
def ir33_9 : IC := .seq ir33_r1 ir33_8
def ir33_r6 : IC := .reg [⟨some 21, none, false, .mv (.t 2)⟩,
  ⟨some 22, none, false, .mv (.t 3)⟩,
  ⟨some 2, none, false, .mv (.t 21)⟩,
  ⟨some 3, none, false, .mv (.t 22)⟩] (some [2, 3])
def ir33_10 : IC := .seq ir33_r6 .ret
def ir33_11 : IC := .seq ir33_9 ir33_10
def ir33_12 : IC := .seq ir33_r0 ir33_11
def ir33 : IC := ir33_12
theorem fn33 : FnIs Try.prog 33 ir33 23 [.tmp 2, .tmp 3] := ⟨Try.f33, Try.f33.body.getD .skip, Try.func33, by kernel_rfl, by kernel_rfl, by kernel_rfl, by kernel_rfl⟩
/- boule/units.Sum · slots 18 · names 0:l 1:l 4:e · results [2, 3] -/
def ir11_r0 : IC := .reg [⟨some 2, none, false, .alloc [(.int .i64 0), (.int .i64 0)]⟩,
  ⟨some 3, none, false, .mv (.k (.int .i64 0))⟩] (some [0, 2])
def ir11_r1 : IC := .reg [⟨some 5, none, false, .mv (.t 0)⟩,
  ⟨some 6, none, false, .call (.f 31) [(.t 5)]⟩,
  ⟨some 4, none, false, .mv (.t 6)⟩] (some [0, 2, 4])
def ir11_r2 : IC := .reg [⟨some 7, none, false, .mv (.t 4)⟩,
  ⟨some 8, none, false, .cmp .neq (.t 7) (.k (.int .i64 0))⟩] (some [0, 2, 4, 8])
def ir11_r3 : IC := .reg [⟨some 9, none, false, .bld [(.int .i64 0), (.int .i64 0)] []⟩,
  ⟨some 10, none, false, .mv (.t 4)⟩,
  ⟨none, none, false, .st 2 (.t 2) (.t 9)⟩,
  ⟨some 3, none, false, .mv (.t 10)⟩] (some [2, 3])
def ir11_1 : IC := .seq ir11_r3 .ret
def ir11_2 : IC := .cond (.t 8) ir11_1 .skip
def ir11_3 : IC := .seq ir11_r2 ir11_2
def ir11_4 : IC := .seq ir11_r1 ir11_3
def ir11_r4 : IC := .reg [⟨some 11, none, false, .mv (.t 0)⟩,
  ⟨some 12, none, false, .call (.f 33) [(.t 11)]⟩,
  ⟨some 13, none, false, .ext (.t 12) 0⟩,
  ⟨some 14, none, false, .ext (.t 12) 1⟩,
  ⟨some 15, none, false, .call (.f 32) [(.t 13), (.t 14)]⟩,
  ⟨some 16, none, false, .ext (.t 15) 0⟩,
  ⟨some 17, none, false, .ext (.t 15) 1⟩,
  ⟨none, none, false, .st 2 (.t 2) (.t 16)⟩,
  ⟨some 3, none, false, .mv (.t 17)⟩] (some [2, 3])
def ir11_5 : IC := .seq ir11_r4 .ret
def ir11_6 : IC := .seq ir11_4 ir11_5
def ir11_7 : IC := .seq ir11_r0 ir11_6
def ir11 : IC := ir11_7
theorem fn11 : FnIs Try.prog 11 ir11 18 [.cell 2 23, .tmp 3] := ⟨Try.f11, Try.f11.body.getD .skip, Try.func11, by kernel_rfl, by kernel_rfl, by kernel_rfl, by kernel_rfl⟩
/- boule/units.Less · slots 25 · names 0:a 1:b 2:a 3:b · results [4, 5] -/
def ir12_r0 : IC := .reg [⟨some 2, none, false, .box (.t 0)⟩,
  ⟨some 3, none, false, .box (.t 1)⟩,
  ⟨some 4, none, false, .alloc [(.int .i64 0), (.int .i64 0)]⟩,
  ⟨some 5, none, false, .mv (.k (.int .i64 0))⟩] (some [2, 3, 4])
def ir12_r1 : IC := .reg [⟨some 6, none, false, .lda 2 (.t 2)⟩,
  ⟨some 7, none, false, .lda 2 (.t 3)⟩,
  ⟨some 8, none, false, .bsl 2 2 [(.int .i64 0), (.int .i64 0), (.int .i64 0), (.int .i64 0)] [(0, (.t 6)), (1, (.t 7))]⟩,
  ⟨some 9, none, false, .call (.f 34) [(.t 8)]⟩,
  ⟨some 10, none, false, .not (.t 9)⟩] (some [2, 3, 4, 10])
def ir12_r2 : IC := .reg [⟨some 11, none, false, .bld [(.int .i64 0), (.int .i64 0)] []⟩,
  ⟨none, none, false, .st 2 (.t 4) (.t 11)⟩,
  ⟨some 5, none, false, .mv (.k (.int .i64 2))⟩] (some [4, 5])
def ir12_1 : IC := .seq ir12_r2 .ret
def ir12_2 : IC := .cond (.t 10) ir12_1 .skip
def ir12_3 : IC := .seq ir12_r1 ir12_2
def ir12_r3 : IC := .reg [⟨some 12, none, false, .fad 0 (.t 2)⟩,
  ⟨some 13, none, false, .ldc (.t 12)⟩,
  ⟨some 14, none, false, .fad 1 (.t 3)⟩,
  ⟨some 15, none, false, .ldc (.t 14)⟩,
  ⟨some 16, none, false, .ar .sub (.t 13) (.t 15)⟩,
  ⟨some 17, none, false, .fad 1 (.t 2)⟩,
  ⟨some 18, none, false, .ldc (.t 17)⟩,
  ⟨some 19, none, false, .fad 0 (.t 3)⟩,
  ⟨some 20, none, false, .ldc (.t 19)⟩,
  ⟨some 21, none, false, .ar .sub (.t 18) (.t 20)⟩,
  ⟨some 22, none, false, .call (.f 32) [(.t 16), (.t 21)]⟩,
  ⟨some 23, none, false, .ext (.t 22) 0⟩,
  ⟨some 24, none, false, .ext (.t 22) 1⟩,
  ⟨none, none, false, .st 2 (.t 4) (.t 23)⟩,
  ⟨some 5, none, false, .mv (.t 24)⟩] (some [4, 5])
def ir12_4 : IC := .seq ir12_r3 .ret
def ir12_5 : IC := .seq ir12_3 ir12_4
def ir12_6 : IC := .seq ir12_r0 ir12_5
def ir12 : IC := ir12_6
theorem fn12 : FnIs Try.prog 12 ir12 25 [.cell 4 23, .tmp 5] := ⟨Try.f12, Try.f12.body.getD .skip, Try.func12, by kernel_rfl, by kernel_rfl, by kernel_rfl, by kernel_rfl⟩
theorem check_f1 {n : Nat} {xs : List (Int × Int)} (hn : xs.length = n) (hb : n ≤ 100) (hv : xs.any badR = false) {h : AH} {s : Value} (h0 : h.sees 0 = true) (r : Rd h s n (rows eII xs)) :
    Fc Try.prog 31 [s] h (.int .i64 0) h := by
  refine Fc.lift1 (mk := fun ss => ss ++ []) (mkv := fun _ => .int .i64 0) (os := []) (fun c => ?_) (MkL.app rfl) (MkV.const rfl) (rows_no (f := eII) xs) (fun o ho => by cases ho) h0 r
  refine Fc.intro0 (h := H1 (rows eII xs)) fn31 (by simp) rfl rfl ?_; simp only [argF, List.cons_append, List.nil_append]
  refine ITri.seq ?_
  refine ITri.reg pok ?_; simp -implicitDefEqProofs (disch := first | decide | exact of_eq_true (eq_true rfl) | omega | assumption) only [ ↓vcD, vcE, ↓vcG, vcF, evs, evP, evB, intsOf, fillC, Value.cells, pt, Value.oneCell', reduceIte, reduceCtorEq, Nat.reduceEqDiff, Nat.reduceAdd, Nat.reduceMul, Nat.reduceLT, Nat.reduceBEq, Nat.reduceLeDiff, Nat.reduceSub] -- r0
  refine ITri.seq ?_
  refine ITri.block ?_ -- 0
  refine ITri.seq ?_
  have g : ¬ (n : Int) > 100 := by omega
  refine ITri.reg pok ?_; simp -implicitDefEqProofs (disch := first | decide | exact of_eq_true (eq_true rfl) | omega | assumption) only [g, decide_false,  ↓vcD, vcE, ↓vcG, vcF, evs, evP, evB, intsOf, fillC, Value.cells, pt, Value.oneCell', reduceIte, reduceCtorEq, Nat.reduceEqDiff, Nat.reduceAdd, Nat.reduceMul, Nat.reduceLT, Nat.reduceBEq, Nat.reduceLeDiff, Nat.reduceSub] -- r1
  refine ITri.cond (v := false) rfl (fun h => by cases h) (fun _ => ?_)
  refine ITri.seq ?_
  refine ITri.reg pok ?_; simp -implicitDefEqProofs (disch := first | decide | exact of_eq_true (eq_true rfl) | omega | assumption) only [ ↓vcD, vcE, ↓vcG, vcF, evs, evP, evB, intsOf, fillC, Value.cells, pt, Value.oneCell', reduceIte, reduceCtorEq, Nat.reduceEqDiff, Nat.reduceAdd, Nat.reduceMul, Nat.reduceLT, Nat.reduceBEq, Nat.reduceLeDiff, Nat.reduceSub] -- r3
  refine ⟨_, _, valid_f n xs hn (by omega) (sees0 rfl (of_decide_eq_true rfl)) (Rd.hq rfl rfl), ?_⟩
  simp -implicitDefEqProofs (disch := first | decide | exact of_eq_true (eq_true rfl) | omega | assumption) only [hv, Bool.not_false, Bool.not_true,  ↓vcD, vcE, ↓vcG, vcF, evs, evP, evB, intsOf, fillC, Value.cells, pt, Value.oneCell', reduceIte, reduceCtorEq, Nat.reduceEqDiff, Nat.reduceAdd, Nat.reduceMul, Nat.reduceLT, Nat.reduceBEq, Nat.reduceLeDiff, Nat.reduceSub]
  refine ITri.cond (v := false) rfl (fun h => by cases h) (fun _ => ?_); refine ITri.skip ?_; simp only [SeqQ_normal, BlkQ_normal]
  refine ITri.seq ?_
  refine ITri.reg pok ?_; simp -implicitDefEqProofs (disch := first | decide | exact of_eq_true (eq_true rfl) | omega | assumption) only [ ↓vcD, vcE, ↓vcG, vcF, evs, evP, evB, intsOf, fillC, Value.cells, pt, Value.oneCell', reduceIte, reduceCtorEq, Nat.reduceEqDiff, Nat.reduceAdd, Nat.reduceMul, Nat.reduceLT, Nat.reduceBEq, Nat.reduceLeDiff, Nat.reduceSub] -- r5
  refine ITri.ret ?_; exact EndR.plain (by simp) (by rfl) (by rfl) (by rfl)
theorem added_f {n : Nat} {xs : List (Int × Int)} (hn : xs.length = n) (hb : n ≤ 100) (ho : sumOK xs n) {h : AH} {s : Value} (h0 : h.sees 0 = true) (r : Rd h s n (rows eII xs)) :
    Fc Try.prog 33 [s] h (.tuple #[.int .i64 (pL xs n), .int .i64 (pH xs n)]) h := by
  refine Fc.lift1 (mk := fun ss => ss ++ []) (mkv := fun _ => .tuple #[.int .i64 (pL xs n), .int .i64 (pH xs n)]) (os := []) (fun c => ?_) (MkL.app rfl) (MkV.const rfl) (rows_no (f := eII) xs) (fun o ho => by cases ho) h0 r
  refine Fc.intro0 (h := H1 (rows eII xs)) fn33 (by simp) rfl rfl ?_; simp only [argF, List.cons_append, List.nil_append]
  refine ITri.seq ?_
  refine ITri.reg pok ?_; simp -implicitDefEqProofs (disch := first | decide | exact of_eq_true (eq_true rfl) | omega | assumption) only [ ↓vcD, vcE, ↓vcG, vcF, evs, evP, evB, intsOf, fillC, Value.cells, pt, Value.oneCell', reduceIte, reduceCtorEq, Nat.reduceEqDiff, Nat.reduceAdd, Nat.reduceMul, Nat.reduceLT, Nat.reduceBEq, Nat.reduceLeDiff, Nat.reduceSub] -- r0
  refine ITri.seq ?_
  refine ITri.seq ?_
  refine ITri.reg pok ?_; simp -implicitDefEqProofs (disch := first | decide | exact of_eq_true (eq_true rfl) | omega | assumption) only [ ↓vcD, vcE, ↓vcG, vcF, evs, evP, evB, intsOf, fillC, Value.cells, pt, Value.oneCell', reduceIte, reduceCtorEq, Nat.reduceEqDiff, Nat.reduceAdd, Nat.reduceMul, Nat.reduceLT, Nat.reduceBEq, Nat.reduceLeDiff, Nat.reduceSub] -- r1
  refine ITri.block ?_ -- 0
  refine ITri.loop (fun k : Nat => [(2, .int .i64 (pL xs k)), (3, .int .i64 (pH xs k)), (6, s1 n c), (7, .int .i64 n), (8, .int .i64 k)]) (fun _ => []) (fun k => H1 (rows eII xs)) (fun k => k ≤ n) (fun k => n - k) 0 (Nat.zero_le _) (Wk.sub ⟨rfl, rfl, rfl, rfl, rfl, trivial⟩) fun k hk => ?_
  refine ITri.seq ?_
  refine ITri.reg pok ?_; simp -implicitDefEqProofs (disch := first | decide | exact of_eq_true (eq_true rfl) | omega | assumption) only [ ↓vcD, vcE, ↓vcG, vcF, evs, evP, evB, intsOf, fillC, Value.cells, pt, Value.oneCell', reduceIte, reduceCtorEq, Nat.reduceEqDiff, Nat.reduceAdd, Nat.reduceMul, Nat.reduceLT, Nat.reduceBEq, Nat.reduceLeDiff, Nat.reduceSub] -- r2
  refine ITri.seq ?_
  refine ITri.condD (by rfl) (fun h1 => ?_) (fun h1 => ?_)
  · have h2 : k < n := by omega
    have g1 := takeII (xs := xs) (i := k) (by omega)
    have b1 := ho k hk
    have b2 := ho (k + 1) h2
    have e1 : pL xs k + (nth xs k).1 = pL xs (k + 1) := rfl
    have e2 : pH xs k + (nth xs k).2 = pH xs (k + 1) := rfl
    generalize (nth xs k).1 = a at *
    generalize (nth xs k).2 = b at *
    have hk1 : (k : Int) + 1 = ((k + 1 : Nat) : Int) := by omega
    refine ITri.skip ?_; simp only [SeqQ_normal, BlkQ_normal]
    refine ITri.seq ?_
    refine ITri.block ?_ -- 1
    refine ITri.seq ?_
    refine ITri.reg pok ?_; simp -implicitDefEqProofs (disch := first | decide | exact of_eq_true (eq_true rfl) | omega | assumption) only [g1,  ↓vcD, vcE, ↓vcG, vcF, evs, evP, evB, intsOf, fillC, Value.cells, pt, Value.oneCell', reduceIte, reduceCtorEq, Nat.reduceEqDiff, Nat.reduceAdd, Nat.reduceMul, Nat.reduceLT, Nat.reduceBEq, Nat.reduceLeDiff, Nat.reduceSub] -- r3
    refine ITri.draw pok ?_; simp -implicitDefEqProofs (disch := first | decide | exact of_eq_true (eq_true rfl) | omega | assumption) only [e1, e2,  ↓vcD, vcE, ↓vcG, vcF, evs, evP, evB, intsOf, fillC, Value.cells, pt, Value.oneCell', reduceIte, reduceCtorEq, Nat.reduceEqDiff, Nat.reduceAdd, Nat.reduceMul, Nat.reduceLT, Nat.reduceBEq, Nat.reduceLeDiff, Nat.reduceSub] -- r4
    refine ITri.reg pok ?_; simp -implicitDefEqProofs (disch := first | decide | exact of_eq_true (eq_true rfl) | omega | assumption) only [hk1,  ↓vcD, vcE, ↓vcG, vcF, evs, evP, evB, intsOf, fillC, Value.cells, pt, Value.oneCell', reduceIte, reduceCtorEq, Nat.reduceEqDiff, Nat.reduceAdd, Nat.reduceMul, Nat.reduceLT, Nat.reduceBEq, Nat.reduceLeDiff, Nat.reduceSub] -- r5
    exact LoopQ.next (k + 1) (by omega) (by omega) (Wk.gc [0, 1] [] (of_decide_eq_true rfl) (of_decide_eq_true rfl) rfl rfl (of_decide_eq_true rfl) rfl rfl (by repeat (first | exact xiOK_nil | refine xiOK_cons (by first | trivial | exact roomOK _ (by decide)) ?_)) rfl (by simp -implicitDefEqProofs (disch := first | decide | exact of_eq_true (eq_true rfl) | omega | assumption) only [ objOK, sgL, xiL, objAt, nilO, OM, mvL, mv, mvS, okS, okP, mvL_rows, okML, okM, okML_rows, List.getElem?_cons_zero, Option.getD_some, implies_true, imp_self, ne_eq, and_self, true_or, or_true, Nat.zero_mul, Nat.sub_self, openB_self, ↓vcD, vcE, ↓vcG, vcF, evs, evP, evB, intsOf, fillC, Value.cells, pt, Value.oneCell', reduceIte, reduceCtorEq, Nat.reduceEqDiff, Nat.reduceAdd, Nat.reduceMul, Nat.reduceLT, Nat.reduceBEq, Nat.reduceLeDiff, Nat.reduceSub]) (by simp -implicitDefEqProofs (disch := first | decide | exact of_eq_true (eq_true rfl) | omega | assumption) only [ valOK, sgL, xiL, mv, mvA, mvL, mvS, okS, okP, okM, okMA, okML, Option.getD_some, implies_true, and_self, true_or, or_true, Int.natCast_add, Int.cast_ofNat_Int, Nat.zero_mul, Nat.sub_self, openB_self, ↓vcD, vcE, ↓vcG, vcF, evs, evP, evB, intsOf, fillC, Value.cells, pt, Value.oneCell', reduceIte, reduceCtorEq, Nat.reduceEqDiff, Nat.reduceAdd, Nat.reduceMul, Nat.reduceLT, Nat.reduceBEq, Nat.reduceLeDiff, Nat.reduceSub]) (fun _ h => by cases h) ⟨rfl, fun _ h => by cases h⟩)
  refine ITri.exit ?_; try simp -implicitDefEqProofs (disch := first | decide | exact of_eq_true (eq_true rfl) | omega | assumption) only [ ↓vcD, vcE, ↓vcG, vcF, evs, evP, evB, intsOf, fillC, Value.cells, pt, Value.oneCell', reduceIte, reduceCtorEq, Nat.reduceEqDiff, Nat.reduceAdd, Nat.reduceMul, Nat.reduceLT, Nat.reduceBEq, Nat.reduceLeDiff, Nat.reduceSub]
  obtain rfl : n = k := by omega
  refine ITri.seq ?_
  refine ITri.reg pok ?_; simp -implicitDefEqProofs (disch := first | decide | exact of_eq_true (eq_true rfl) | omega | assumption) only [ ↓vcD, vcE, ↓vcG, vcF, evs, evP, evB, intsOf, fillC, Value.cells, pt, Value.oneCell', reduceIte, reduceCtorEq, Nat.reduceEqDiff, Nat.reduceAdd, Nat.reduceMul, Nat.reduceLT, Nat.reduceBEq, Nat.reduceLeDiff, Nat.reduceSub] -- r6
  refine ITri.ret ?_; exact EndR.plain (by simp) (by rfl) (by rfl) (by rfl)
theorem wr22 (z0 z1 a0 a1 : Value) : writeAt [z0, z1] 0 [a0, a1] = [a0, a1] := rfl
theorem usum_f {n : Nat} {xs : List (Int × Int)} (hn : xs.length = n) (hb : n ≤ 100) (hv : xs.any badR = false) (ho : sumOK xs n) {h : AH} {s : Value} (h0 : h.sees 0 = true) (r : Rd h s n (rows eII xs)) :
    Fc Try.prog 11 [s] h (.tuple #[.agg #[.int .i64 (pL xs n), .int .i64 (pH xs n)], .int .i64 0]) h := by
  refine Fc.lift1 (mk := fun ss => ss ++ []) (mkv := fun _ => .tuple #[.agg #[.int .i64 (pL xs n), .int .i64 (pH xs n)], .int .i64 0]) (os := []) (fun c => ?_) (MkL.app rfl) (MkV.const rfl) (rows_no (f := eII) xs) (fun o ho => by cases ho) h0 r
  refine Fc.intro0 (h := H1 (rows eII xs)) fn11 (by simp) rfl rfl ?_; simp only [argF, List.cons_append, List.nil_append]
  have b1 := ho n (Nat.le_refl _)
  refine ITri.seq ?_
  refine ITri.reg pok ?_; simp -implicitDefEqProofs (disch := first | decide | exact of_eq_true (eq_true rfl) | omega | assumption) only [ ↓vcD, vcE, ↓vcG, vcF, evs, evP, evB, intsOf, fillC, Value.cells, pt, Value.oneCell', reduceIte, reduceCtorEq, Nat.reduceEqDiff, Nat.reduceAdd, Nat.reduceMul, Nat.reduceLT, Nat.reduceBEq, Nat.reduceLeDiff, Nat.reduceSub] -- r0
  refine ITri.seq ?_
  refine ITri.seq ?_
  refine ITri.reg pok ?_; simp -implicitDefEqProofs (disch := first | decide | exact of_eq_true (eq_true rfl) | omega | assumption) only [ ↓vcD, vcE, ↓vcG, vcF, evs, evP, evB, intsOf, fillC, Value.cells, pt, Value.oneCell', reduceIte, reduceCtorEq, Nat.reduceEqDiff, Nat.reduceAdd, Nat.reduceMul, Nat.reduceLT, Nat.reduceBEq, Nat.reduceLeDiff, Nat.reduceSub] -- r1
  refine ⟨_, _, check_f1 hn hb hv (sees0 rfl (of_decide_eq_true rfl)) (Rd.hq rfl rfl), ?_⟩
  try simp -implicitDefEqProofs (disch := first | decide | exact of_eq_true (eq_true rfl) | omega | assumption) only [ ↓vcD, vcE, ↓vcG, vcF, evs, evP, evB, intsOf, fillC, Value.cells, pt, Value.oneCell', reduceIte, reduceCtorEq, Nat.reduceEqDiff, Nat.reduceAdd, Nat.reduceMul, Nat.reduceLT, Nat.reduceBEq, Nat.reduceLeDiff, Nat.reduceSub]
  refine ITri.seq ?_
  refine ITri.reg pok ?_; simp -implicitDefEqProofs (disch := first | decide | exact of_eq_true (eq_true rfl) | omega | assumption) only [decide_true, Bool.not_true,  ↓vcD, vcE, ↓vcG, vcF, evs, evP, evB, intsOf, fillC, Value.cells, pt, Value.oneCell', reduceIte, reduceCtorEq, Nat.reduceEqDiff, Nat.reduceAdd, Nat.reduceMul, Nat.reduceLT, Nat.reduceBEq, Nat.reduceLeDiff, Nat.reduceSub] -- r2
  refine ITri.cond (v := false) rfl (fun h => by cases h) (fun _ => ?_); refine ITri.skip ?_; simp only [SeqQ_normal, BlkQ_normal]
  refine ITri.seq ?_
  refine ITri.reg pok ?_; simp -implicitDefEqProofs (disch := first | decide | exact of_eq_true (eq_true rfl) | omega | assumption) only [ ↓vcD, vcE, ↓vcG, vcF, evs, evP, evB, intsOf, fillC, Value.cells, pt, Value.oneCell', reduceIte, reduceCtorEq, Nat.reduceEqDiff, Nat.reduceAdd, Nat.reduceMul, Nat.reduceLT, Nat.reduceBEq, Nat.reduceLeDiff, Nat.reduceSub] -- r4
  refine ⟨_, _, added_f hn hb ho (sees0 rfl (of_decide_eq_true rfl)) (Rd.hq rfl rfl), ?_⟩
  try simp -implicitDefEqProofs (disch := first | decide | exact of_eq_true (eq_true rfl) | omega | assumption) only [ ↓vcD, vcE, ↓vcG, vcF, evs, evP, evB, intsOf, fillC, Value.cells, pt, Value.oneCell', reduceIte, reduceCtorEq, Nat.reduceEqDiff, Nat.reduceAdd, Nat.reduceMul, Nat.reduceLT, Nat.reduceBEq, Nat.reduceLeDiff, Nat.reduceSub]
  refine ⟨_, _, fits_f _ _ (far_no b1.1 b1.2.1) (far_no b1.2.2.1 b1.2.2.2) (sees0 rfl (of_decide_eq_true rfl)), ?_⟩
  simp -implicitDefEqProofs (disch := first | decide | exact of_eq_true (eq_true rfl) | omega | assumption) only [wr22,  ↓vcD, vcE, ↓vcG, vcF, evs, evP, evB, intsOf, fillC, Value.cells, pt, Value.oneCell', reduceIte, reduceCtorEq, Nat.reduceEqDiff, Nat.reduceAdd, Nat.reduceMul, Nat.reduceLT, Nat.reduceBEq, Nat.reduceLeDiff, Nat.reduceSub]
  refine ITri.ret ?_; exact EndR.plain (vs := [.agg ⟨[.int .i64 (pL xs n), .int .i64 (pH xs n)]⟩, .int .i64 0]) (by simp) (resF_agg 2 rfl (by kernel_rfl) (by simp -implicitDefEqProofs (disch := first | decide | exact of_eq_true (eq_true rfl) | omega | assumption) only [↓vcD, vcE, ↓vcG, vcF, evs, evP, evB, intsOf, fillC, Value.cells, pt, Value.oneCell', reduceIte, reduceCtorEq, Nat.reduceEqDiff, Nat.reduceAdd, Nat.reduceMul, Nat.reduceLT, Nat.reduceBEq, Nat.reduceLeDiff, Nat.reduceSub]) (resF_tmp rfl resF_nil)) (by rfl) (by rfl)
theorem less_f {a b c d : Int} (h1 : badR (a, b) = false) (h2 : badR (c, d) = false) (h3 : -1000000000000000 ≤ a - d ∧ a - d ≤ 1000000000000000) (h4 : -1000000000000000 ≤ b - c ∧ b - c ≤ 1000000000000000) {h : AH} (h0 : h.sees 0 = true) :
    Fc Try.prog 12 [.agg #[.int .i64 a, .int .i64 b], .agg #[.int .i64 c, .int .i64 d]] h (.tuple #[.agg #[.int .i64 (a - d), .int .i64 (b - c)], .int .i64 0]) h := by
  refine Fc.lift0 ?_ rfl rfl h0
  refine Fc.intro0 fn12 (by simp) rfl rfl ?_; simp only [argF]
  have hv : [(a, b), (c, d)].any badR = false := by simp [h1, h2]
  refine ITri.seq ?_
  refine ITri.reg pok ?_; simp -implicitDefEqProofs (disch := first | decide | exact of_eq_true (eq_true rfl) | omega | assumption) only [ ↓vcD, vcE, ↓vcG, vcF, evs, evP, evB, intsOf, fillC, Value.cells, pt, Value.oneCell', reduceIte, reduceCtorEq, Nat.reduceEqDiff, Nat.reduceAdd, Nat.reduceMul, Nat.reduceLT, Nat.reduceBEq, Nat.reduceLeDiff, Nat.reduceSub] -- r0
  refine ITri.seq ?_
  refine ITri.seq ?_
  refine ITri.reg pok ?_; simp -implicitDefEqProofs (disch := first | decide | exact of_eq_true (eq_true rfl) | omega | assumption) only [ ↓vcD, vcE, ↓vcG, vcF, evs, evP, evB, intsOf, fillC, Value.cells, pt, Value.oneCell', reduceIte, reduceCtorEq, Nat.reduceEqDiff, Nat.reduceAdd, Nat.reduceMul, Nat.reduceLT, Nat.reduceBEq, Nat.reduceLeDiff, Nat.reduceSub] -- r1
  refine ⟨_, _, valid_f 2 [(a, b), (c, d)] rfl (by omega) (sees0 rfl (of_decide_eq_true rfl)) (Rd.hq rfl rfl), ?_⟩
  simp -implicitDefEqProofs (disch := first | decide | exact of_eq_true (eq_true rfl) | omega | assumption) only [hv, Bool.not_false, Bool.not_true,  ↓vcD, vcE, ↓vcG, vcF, evs, evP, evB, intsOf, fillC, Value.cells, pt, Value.oneCell', reduceIte, reduceCtorEq, Nat.reduceEqDiff, Nat.reduceAdd, Nat.reduceMul, Nat.reduceLT, Nat.reduceBEq, Nat.reduceLeDiff, Nat.reduceSub]
  refine ITri.cond (v := false) rfl (fun h => by cases h) (fun _ => ?_); refine ITri.skip ?_; simp only [SeqQ_normal, BlkQ_normal]
  refine ITri.seq ?_
  refine ITri.reg pok ?_; simp -implicitDefEqProofs (disch := first | decide | exact of_eq_true (eq_true rfl) | omega | assumption) only [ ↓vcD, vcE, ↓vcG, vcF, evs, evP, evB, intsOf, fillC, Value.cells, pt, Value.oneCell', reduceIte, reduceCtorEq, Nat.reduceEqDiff, Nat.reduceAdd, Nat.reduceMul, Nat.reduceLT, Nat.reduceBEq, Nat.reduceLeDiff, Nat.reduceSub] -- r3
  refine ⟨_, _, fits_f _ _ (far_no h3.1 h3.2) (far_no h4.1 h4.2) (sees0 rfl (of_decide_eq_true rfl)), ?_⟩
  simp -implicitDefEqProofs (disch := first | decide | exact of_eq_true (eq_true rfl) | omega | assumption) only [wr22,  ↓vcD, vcE, ↓vcG, vcF, evs, evP, evB, intsOf, fillC, Value.cells, pt, Value.oneCell', reduceIte, reduceCtorEq, Nat.reduceEqDiff, Nat.reduceAdd, Nat.reduceMul, Nat.reduceLT, Nat.reduceBEq, Nat.reduceLeDiff, Nat.reduceSub]
  refine ITri.ret ?_; exact EndR.plain (vs := [.agg ⟨[.int .i64 (a - d), .int .i64 (b - c)]⟩, .int .i64 0]) (by simp) (resF_agg 2 rfl (by kernel_rfl) (by simp -implicitDefEqProofs (disch := first | decide | exact of_eq_true (eq_true rfl) | omega | assumption) only [↓vcD, vcE, ↓vcG, vcF, evs, evP, evB, intsOf, fillC, Value.cells, pt, Value.oneCell', reduceIte, reduceCtorEq, Nat.reduceEqDiff, Nat.reduceAdd, Nat.reduceMul, Nat.reduceLT, Nat.reduceBEq, Nat.reduceLeDiff, Nat.reduceSub]) (resF_tmp rfl resF_nil)) (by rfl) (by rfl)
end Go.Proofs.Ytjfgbdmdnejhdaa
