/-
  Chapter 4 at the top: Accepted, Between.
-/
import Derived.Test.YteddklolpcpjaaaGrI
set_option linter.unusedSimpArgs false
set_option linter.unusedVariables false
namespace Go.Proofs.Yteddklolpcpjaaa
open Go.RowKit Go.Vm
set_option maxRecDepth 1000000
/- boule/pull.Accepted · slots 22 · names 0:p 1:r 2:p 3:r 6:c 7:e · results [4, 5] -/
def ir9_r0 : IC := .reg [⟨some 2, none, false, .box (.t 0)⟩,
  ⟨some 3, none, false, .box (.t 1)⟩,
  ⟨some 4, none, false, .mv (.k (.slice none 0 0))⟩,
  ⟨some 5, none, false, .mv (.k (.int .i64 0))⟩] (some [2, 3])
def ir9_r1 : IC := .reg [⟨some 9, none, false, .lda 117 (.t 2)⟩,
  ⟨some 10, none, false, .lda 4 (.t 3)⟩,
  ⟨some 11, none, false, .call (.f 20) [(.t 9), (.t 10)]⟩,
  ⟨some 8, none, false, .mv (.t 11)⟩,
  ⟨some 12, none, false, .ext (.t 8) 0⟩,
  ⟨some 13, none, false, .ext (.t 8) 1⟩,
  ⟨some 6, none, false, .mv (.t 12)⟩,
  ⟨some 7, none, false, .mv (.t 13)⟩] (some [3, 6, 7])
def ir9_r2 : IC := .reg [⟨some 14, none, false, .mv (.t 7)⟩,
  ⟨some 15, none, false, .cmp .neq (.t 14) (.k (.int .i64 0))⟩] (some [3, 6, 7, 15])
def ir9_r3 : IC := .reg [⟨some 16, none, false, .mv (.t 7)⟩,
  ⟨some 4, none, false, .mv (.k (.slice none 0 0))⟩,
  ⟨some 5, none, false, .mv (.t 16)⟩] (some [4, 5])
def ir9_1 : IC := .seq ir9_r3 .ret
def ir9_2 : IC := .cond (.t 15) ir9_1 .skip
def ir9_3 : IC := .seq ir9_r2 ir9_2
def ir9_r4 : IC := .reg [⟨some 17, none, false, .fad 1 (.t 3)⟩,
  ⟨some 18, none, false, .ldc (.t 17)⟩,
  ⟨some 19, none, false, .mv (.t 6)⟩,
  ⟨some 20, none, false, .mkf 22 [(.t 19)] []⟩,
  ⟨some 21, none, false, .call (.f 21) [(.t 18), (.t 20)]⟩,
  ⟨some 4, none, false, .mv (.t 21)⟩,
  ⟨some 5, none, false, .mv (.k (.int .i64 0))⟩] (some [4, 5])
def ir9_4 : IC := .seq ir9_r4 .ret
def ir9_5 : IC := .seq ir9_3 ir9_4
def ir9_6 : IC := .seq ir9_r1 ir9_5
def ir9_7 : IC := .seq ir9_r0 ir9_6
def ir9 : IC := ir9_7
theorem fn9 : FnIs Try.prog 9 ir9 22 [.tmp 4, .tmp 5] := ⟨Try.f9, Try.f9.body.getD .skip, Try.func9, by kernel_rfl, by kernel_rfl, by kernel_rfl, by kernel_rfl⟩
/- boule/pull.tell · slots 57 · names 0:p 1:r 2:at 3:last 4:what 5:p 6:r 7:at 8:last 9:what 12:e 13:c 14:e 15:k · results [10, 11] -/
def ir23_r0 : IC := .reg [⟨some 5, none, false, .box (.t 0)⟩,
  ⟨some 6, none, false, .box (.t 1)⟩,
  ⟨some 10, none, false, .alloc [(.int .i64 0), (.int .i64 0)]⟩,
  ⟨some 11, none, false, .mv (.k (.int .i64 0))⟩] (some [2, 3, 4, 5, 6, 10])
def ir23_r1 : IC := .reg [⟨some 16, none, false, .lda 117 (.t 5)⟩,
  ⟨some 17, none, false, .lda 4 (.t 6)⟩,
  ⟨some 18, none, false, .call (.f 48) [(.t 16), (.t 17)]⟩,
  ⟨some 12, none, false, .mv (.t 18)⟩] (some [2, 3, 4, 5, 6, 10, 12])
def ir23_r2 : IC := .reg [⟨some 19, none, false, .mv (.t 12)⟩,
  ⟨some 20, none, false, .cmp .neq (.t 19) (.k (.int .i64 0))⟩] (some [2, 3, 4, 5, 6, 10, 12, 20])
def ir23_r3 : IC := .reg [⟨some 21, none, false, .bld [(.int .i64 0), (.int .i64 0)] []⟩,
  ⟨some 22, none, false, .mv (.t 12)⟩,
  ⟨none, none, false, .st 2 (.t 10) (.t 21)⟩,
  ⟨some 11, none, false, .mv (.t 22)⟩] (some [10, 11])
def ir23_1 : IC := .seq ir23_r3 .ret
def ir23_2 : IC := .cond (.t 20) ir23_1 .skip
def ir23_3 : IC := .seq ir23_r2 ir23_2
def ir23_4 : IC := .seq ir23_r1 ir23_3
def ir23_r4 : IC := .reg [⟨some 24, none, false, .mv (.t 2)⟩,
  ⟨some 25, none, false, .cmp .lss (.t 24) (.k (.int .i64 0))⟩,
  ⟨some 26, none, false, .mv (.t 25)⟩,
  ⟨some 27, some (26, false), false, .mv (.t 2)⟩,
  ⟨some 28, some (26, false), false, .mv (.t 3)⟩,
  ⟨some 29, some (26, false), false, .cmp .gtr (.t 27) (.t 28)⟩,
  ⟨some 30, none, false, .pick (.t 26) (.k (.bool true)) (.t 29)⟩,
  ⟨some 23, none, false, .mv (.t 30)⟩] (some [2, 4, 5, 6, 10, 23])
def ir23_r5 : IC := .reg [⟨some 31, none, false, .bld [(.int .i64 0), (.int .i64 0)] []⟩,
  ⟨none, none, false, .st 2 (.t 10) (.t 31)⟩,
  ⟨some 11, none, false, .mv (.k (.int .i64 3))⟩] (some [10, 11])
def ir23_5 : IC := .seq ir23_r5 .ret
def ir23_r6 : IC := .reg [⟨some 33, none, false, .fad 2 (.t 6)⟩,
  ⟨some 34, none, false, .ldc (.t 33)⟩,
  ⟨some 35, none, false, .len (.t 34)⟩,
  ⟨some 36, none, false, .cmp .eql (.t 35) (.k (.int .i64 0))⟩,
  ⟨some 32, none, false, .mv (.t 36)⟩] (some [2, 4, 5, 6, 10, 32])
def ir23_r7 : IC := .reg [⟨some 37, none, false, .bld [(.int .i64 0), (.int .i64 0)] []⟩,
  ⟨none, none, false, .st 2 (.t 10) (.t 37)⟩,
  ⟨some 11, none, false, .mv (.k (.int .i64 7))⟩] (some [10, 11])
def ir23_6 : IC := .seq ir23_r7 .ret
def ir23_7 : IC := .cond (.t 32) ir23_6 .skip
def ir23_8 : IC := .seq ir23_r6 ir23_7
def ir23_9 : IC := .cond (.t 23) ir23_5 ir23_8
def ir23_10 : IC := .seq ir23_r4 ir23_9
def ir23_11 : IC := .block 0 ir23_10
def ir23_r8 : IC := .reg [⟨some 39, none, false, .lda 117 (.t 5)⟩,
  ⟨some 40, none, false, .lda 4 (.t 6)⟩,
  ⟨some 41, none, false, .call (.f 20) [(.t 39), (.t 40)]⟩,
  ⟨some 38, none, false, .mv (.t 41)⟩,
  ⟨some 42, none, false, .ext (.t 38) 0⟩,
  ⟨some 43, none, false, .ext (.t 38) 1⟩,
  ⟨some 13, none, false, .mv (.t 42)⟩,
  ⟨some 14, none, false, .mv (.t 43)⟩] (some [2, 4, 10, 13, 14])
def ir23_r9 : IC := .reg [⟨some 44, none, false, .mv (.t 14)⟩,
  ⟨some 45, none, false, .cmp .neq (.t 44) (.k (.int .i64 0))⟩] (some [2, 4, 10, 13, 14, 45])
def ir23_r10 : IC := .reg [⟨some 46, none, false, .bld [(.int .i64 0), (.int .i64 0)] []⟩,
  ⟨some 47, none, false, .mv (.t 14)⟩,
  ⟨none, none, false, .st 2 (.t 10) (.t 46)⟩,
  ⟨some 11, none, false, .mv (.t 47)⟩] (some [10, 11])
def ir23_12 : IC := .seq ir23_r10 .ret
def ir23_13 : IC := .cond (.t 45) ir23_12 .skip
def ir23_14 : IC := .seq ir23_r9 ir23_13
def ir23_r11 : IC := .reg [⟨some 48, none, false, .mv (.t 4)⟩,
  ⟨some 49, none, false, .mv (.t 13)⟩,
  ⟨some 50, none, false, .mv (.t 2)⟩,
  ⟨some 51, none, false, .call (.t 48) [(.t 49), (.t 50)]⟩,
  ⟨some 15, none, false, .alloc [(.int .i64 0), (.int .i64 0), (.bool false)]⟩,
  ⟨none, none, false, .st 3 (.t 15) (.t 51)⟩] (some [10, 15])
def ir23_r12 : IC := .reg [⟨some 52, none, false, .fad 0 (.t 15)⟩,
  ⟨some 53, none, false, .ldc (.t 52)⟩,
  ⟨some 54, none, false, .fad 1 (.t 15)⟩,
  ⟨some 55, none, false, .ldc (.t 54)⟩,
  ⟨some 56, none, false, .bld [(.int .i64 0), (.int .i64 0)] [(0, 1, (.t 53)), (1, 1, (.t 55))]⟩,
  ⟨none, none, false, .st 2 (.t 10) (.t 56)⟩,
  ⟨some 11, none, false, .mv (.k (.int .i64 0))⟩] (some [10, 11])
def ir23_15 : IC := .seq ir23_r12 .ret
def ir23_16 : IC := .seq ir23_r11 ir23_15
def ir23_17 : IC := .seq ir23_14 ir23_16
def ir23_18 : IC := .seq ir23_r8 ir23_17
def ir23_19 : IC := .seq ir23_11 ir23_18
def ir23_20 : IC := .seq ir23_4 ir23_19
def ir23_21 : IC := .seq ir23_r0 ir23_20
def ir23 : IC := ir23_21
theorem fn23 : FnIs Try.prog 23 ir23 57 [.cell 10 23, .tmp 11] := ⟨Try.f23, Try.f23.body.getD .skip, Try.func23, by kernel_rfl, by kernel_rfl, by kernel_rfl, by kernel_rfl⟩
/- boule/pull.Between · slots 17 · names 0:p 1:r 2:at 3:p 4:r 5:at · results [6, 7] -/
def ir10_r0 : IC := .reg [⟨some 3, none, false, .box (.t 0)⟩,
  ⟨some 4, none, false, .box (.t 1)⟩,
  ⟨some 6, none, false, .alloc [(.int .i64 0), (.int .i64 0)]⟩,
  ⟨some 7, none, false, .mv (.k (.int .i64 0))⟩] (some [2, 3, 4, 6])
def ir10_r1 : IC := .reg [⟨some 8, none, false, .lda 117 (.t 3)⟩,
  ⟨some 9, none, false, .lda 4 (.t 4)⟩,
  ⟨some 10, none, false, .mv (.t 2)⟩,
  ⟨some 11, none, false, .fad 1 (.t 4)⟩,
  ⟨some 12, none, false, .ldc (.t 11)⟩,
  ⟨some 13, none, false, .ar .sub (.t 12) (.k (.int .i64 1))⟩,
  ⟨some 14, none, false, .call (.f 23) [(.t 8), (.t 9), (.t 10), (.t 13), (.f 24)]⟩,
  ⟨some 15, none, false, .ext (.t 14) 0⟩,
  ⟨some 16, none, false, .ext (.t 14) 1⟩,
  ⟨none, none, false, .st 2 (.t 6) (.t 15)⟩,
  ⟨some 7, none, false, .mv (.t 16)⟩] (some [6, 7])
def ir10_1 : IC := .seq ir10_r1 .ret
def ir10_2 : IC := .seq ir10_r0 ir10_1
def ir10 : IC := ir10_2
theorem fn10 : FnIs Try.prog 10 ir10 17 [.cell 6 23, .tmp 7] := ⟨Try.f10, Try.f10.body.getD .skip, Try.func10, by kernel_rfl, by kernel_rfl, by kernel_rfl, by kernel_rfl⟩
section
variable {T : List St} {S : List Sm} {X : List (Int × Int)} {nT nS nX N t : Nat} {ps : List Int} {E e a b : Int} {h : AH} {k1 k2 k3 z1 z2 z3 : Nat} {o1 o2 o3 : Bool}
abbrev BLs (ps : List Int) (S : List Sm) (N : Nat) : List Kn := bL (zF S N) (nth ps 110) (nth ps 111) N
abbrev FLs (ps : List Int) (S : List Sm) (N : Nat) : List Kn := fL (zF S N) (nth ps 110) (nth ps 111) N
theorem GoodC.ch (G : GoodC ps T S X N) : ChOK ps (N + 1) (BLs ps S N) (FLs ps S N) := by
  have H := G.sm
  have hN := G.n
  refine ⟨G.pl, in_2 G.p.g, by omega, bL_len _ _ _ _, fL_len _ _ _ _, fun t ht => ?_, fun t ht => ?_⟩
  · obtain ⟨a, b, c, d⟩ := bL_bd H (t := t) (by omega)
    exact ⟨Int.le_trans (by decide) a, Int.le_trans b (by decide), Int.le_trans (by decide) c, Int.le_trans d (by decide)⟩
  · obtain ⟨a, b, c, d⟩ := fL_bd H (t := t) (by omega)
    exact ⟨Int.le_trans (by decide) a, Int.le_trans b (by decide), Int.le_trans (by decide) c, Int.le_trans d (by decide)⟩
/-- What is accepted lies between the limits, and is not empty. -/
theorem GoodC.acc (G : GoodC ps T S X N) (ht : t < N) (ha : accF ps (BLs ps S N) (FLs ps S N) t = true) : nth ps 112 ≤ (btwF ps (BLs ps S N) (FLs ps S N) t).l ∧ (btwF ps (BLs ps S N) (FLs ps S N) t).l ≤ (btwF ps (BLs ps S N) (FLs ps S N) t).h ∧ (btwF ps (BLs ps S N) (FLs ps S N) t).h ≤ nth ps 113 ∧ 0 < S.length := by
  have H := G.sm
  unfold accF accB at ha
  simp only [Bool.and_eq_true, decide_eq_true_eq] at ha
  obtain ⟨⟨h1, h2⟩, h3⟩ := ha
  refine ⟨h2, chart_ok H ht _ rfl h1, h3, ?_⟩
  have hb := bv_says H t (by omega)
  have hf := fv_says H (N - (t + 1)) (by omega)
  have e1 : nth (BLs ps S N) t = bvF (zF S N) (nth ps 110) (nth ps 111) t := nth_map_range _ (by omega)
  have e2 : nth (FLs ps S N) (t + 1) = fvF (zF S N) (nth ps 110) (nth ps 111) N (N - (t + 1)) := nth_map_range _ (by omega)
  rw [e1, e2] at h1
  rcases hb with ⟨q1, _⟩ | ⟨_, ⟨i, hi, _⟩, _⟩
  · rcases hf with ⟨q2, _⟩ | ⟨_, ⟨i, hi, _⟩, _⟩
    · exfalso
      unfold btw at h1
      rw [if_pos q1] at h1
      have : (fvF (zF S N) (nth ps 110) (nth ps 111) N (N - (t + 1))).s = true := h1
      rw [q2] at this
      cases this
    · omega
  · omega
theorem conflictE_c (hl : ps.length = 117) (hT : T.length = nT) (hS : S.length = nS) (hX : X.length = nX) (hb : E < 9223372036854775807) (hn : ¬ (pulOK ps ∧ runOK T S X E)) :
    Fc Try.prog 45 [.agg ⟨rows eI ps⟩, ruV (sO 1 nT) (sO 2 nS) (sO 3 nX) E] (Hp 4 (M4 T S X)) (.tuple #[I6 0, I6 0, I6 2]) (Hp 4 (M4 T S X)) := by
  refine Fc.intro0 fn45 (by simp) rfl rfl ?_; simp only [argF]
  have hall1 : (rows eI ps).all Value.oneCell' = true := rows_one' (f := eI) ps
  have t117 := takeC_0 (rows eI ps) 117 (by rw [rows_len (f := eI), hl])
  have n20 : ¬ (2 : Int) = 0 := by decide
  refine ITri.seq ?_
  refine ITri.reg pok ?_; simp -implicitDefEqProofs (disch := first | decide | exact of_eq_true (eq_true rfl) | omega | assumption) only [hall1,  ↓vcD, vcE, ↓vcG, vcF, evs, evP, evB, intsOf, fillC, Value.cells, pt, Value.oneCell', reduceIte, reduceCtorEq, Nat.reduceEqDiff, Nat.reduceAdd, Nat.reduceMul, Nat.reduceLT, Nat.reduceBEq, Nat.reduceLeDiff, Nat.reduceSub] -- r0
  refine ITri.seq ?_
  refine ITri.seq ?_
  refine ITri.reg pok ?_; simp -implicitDefEqProofs (disch := first | decide | exact of_eq_true (eq_true rfl) | omega | assumption) only [t117,  ↓vcD, vcE, ↓vcG, vcF, evs, evP, evB, intsOf, fillC, Value.cells, pt, Value.oneCell', reduceIte, reduceCtorEq, Nat.reduceEqDiff, Nat.reduceAdd, Nat.reduceMul, Nat.reduceLT, Nat.reduceBEq, Nat.reduceLeDiff, Nat.reduceSub] -- r1
  refine ⟨_, _, both_f (e := 2) hl hT hS hX hb (.inr ⟨hn, rfl⟩) (sees0 rfl (of_decide_eq_true rfl)) (Rd.hq rfl rfl) (Rd.hq rfl rfl) (Rd.hq rfl rfl), ?_⟩
  try simp -implicitDefEqProofs (disch := first | decide | exact of_eq_true (eq_true rfl) | omega | assumption) only [ ↓vcD, vcE, ↓vcG, vcF, evs, evP, evB, intsOf, fillC, Value.cells, pt, Value.oneCell', reduceIte, reduceCtorEq, Nat.reduceEqDiff, Nat.reduceAdd, Nat.reduceMul, Nat.reduceLT, Nat.reduceBEq, Nat.reduceLeDiff, Nat.reduceSub]
  refine ITri.seq ?_
  refine ITri.reg pok ?_; simp -implicitDefEqProofs (disch := first | decide | exact of_eq_true (eq_true rfl) | omega | assumption) only [n20, decide_false, Bool.not_false,  ↓vcD, vcE, ↓vcG, vcF, evs, evP, evB, intsOf, fillC, Value.cells, pt, Value.oneCell', reduceIte, reduceCtorEq, Nat.reduceEqDiff, Nat.reduceAdd, Nat.reduceMul, Nat.reduceLT, Nat.reduceBEq, Nat.reduceLeDiff, Nat.reduceSub] -- r2
  refine ITri.cond (v := true) rfl (fun _ => ?_) (fun h => by cases h)
  refine ITri.seq ?_
  refine ITri.reg pok ?_; simp -implicitDefEqProofs (disch := first | decide | exact of_eq_true (eq_true rfl) | omega | assumption) only [ ↓vcD, vcE, ↓vcG, vcF, evs, evP, evB, intsOf, fillC, Value.cells, pt, Value.oneCell', reduceIte, reduceCtorEq, Nat.reduceEqDiff, Nat.reduceAdd, Nat.reduceMul, Nat.reduceLT, Nat.reduceBEq, Nat.reduceLeDiff, Nat.reduceSub] -- r3
  refine ITri.ret ?_; exact EndR.plain (by simp) (by rfl) (by rfl) (by rfl)
theorem conflictE_f (hl : ps.length = 117) (hT : T.length = nT) (hS : S.length = nS) (hX : X.length = nX) (hb : E < 9223372036854775807) (hn : ¬ (pulOK ps ∧ runOK T S X E)) (h0 : h.sees 0 = true) (g1 : h.get k1 = some (.cells ⟨rows eT T, z1, o1⟩)) (g2 : h.get k2 = some (.cells ⟨rows eM S, z2, o2⟩)) (g3 : h.get k3 = some (.cells ⟨rows eII X, z3, o3⟩)) :
    Fc Try.prog 45 [.agg ⟨rows eI ps⟩, ruV (sO k1 nT) (sO k2 nS) (sO k3 nX) E] h (.tuple #[I6 0, I6 0, I6 2]) h :=
  Fc.liftP (os := []) (mk := fun ss => .agg ⟨rows eI ps⟩ :: (.agg ⟨ss.take 1 ++ [I6 E] ++ ss.drop 1⟩ :: [])) (mkv := fun _ => .tuple #[I6 0, I6 0, I6 2]) (cs := [(nT, rows eT T), (nS, rows eM S), (nX, rows eII X)]) (caps := [openB, openB, openB]) (ps := [(k1, 0, false), (k2, 0, false), (k3, 0, false)]) (conflictE_c hl hT hS hX hb hn) (MkL.cons (rows_no (f := eI) ps) (MkL.agg1 (MkL.split rfl) rfl)) (MkV.const rfl) no3 (fun o ho => by cases ho) h0 (pl3 g1 g2 g3)
/-- A chart that can not be drawn. -/
def BadC (ps : List Int) (T : List St) (S : List Sm) (X : List (Int × Int)) (E e : Int) : Prop := (¬ (pulOK ps ∧ runOK T S X E) ∧ e = 2) ∨ (pulOK ps ∧ runOK T S X E ∧ e = 40 ∧ ∃ a b, 0 ≤ a ∧ cfV S (nth ps 110) (nth ps 111) a b)
theorem chartE_c (hl : ps.length = 117) (hT : T.length = nT) (hS : S.length = nS) (hX : X.length = nX) (hb : E < 9223372036854775807) (hE : BadC ps T S X E e) :
    Fc Try.prog 20 [.agg ⟨rows eI ps⟩, ruV (sO 1 nT) (sO 2 nS) (sO 3 nX) E] (Hp 4 (M4 T S X)) (.tuple #[.pointer none, I6 e]) (Hp 4 (M4 T S X)) := by
  refine Fc.intro0 fn20 (by simp) rfl rfl ?_; simp only [argF]
  have hall1 : (rows eI ps).all Value.oneCell' = true := rows_one' (f := eI) ps
  have t117 := takeC_0 (rows eI ps) 117 (by rw [rows_len (f := eI), hl])
  have n20 : ¬ (2 : Int) = 0 := by decide
  refine ITri.seq ?_
  refine ITri.reg pok ?_; simp -implicitDefEqProofs (disch := first | decide | exact of_eq_true (eq_true rfl) | omega | assumption) only [hall1,  ↓vcD, vcE, ↓vcG, vcF, evs, evP, evB, intsOf, fillC, Value.cells, pt, Value.oneCell', reduceIte, reduceCtorEq, Nat.reduceEqDiff, Nat.reduceAdd, Nat.reduceMul, Nat.reduceLT, Nat.reduceBEq, Nat.reduceLeDiff, Nat.reduceSub] -- r0
  refine ITri.seq ?_
  refine ITri.seq ?_
  refine ITri.reg pok ?_; simp -implicitDefEqProofs (disch := first | decide | exact of_eq_true (eq_true rfl) | omega | assumption) only [t117,  ↓vcD, vcE, ↓vcG, vcF, evs, evP, evB, intsOf, fillC, Value.cells, pt, Value.oneCell', reduceIte, reduceCtorEq, Nat.reduceEqDiff, Nat.reduceAdd, Nat.reduceMul, Nat.reduceLT, Nat.reduceBEq, Nat.reduceLeDiff, Nat.reduceSub] -- r1
  rcases hE with ⟨hn, rfl⟩ | ⟨hp, hr, rfl, a, b, ha, hv⟩
  · refine ⟨_, _, conflictE_f hl hT hS hX hb hn (sees0 rfl (of_decide_eq_true rfl)) (get_hq rfl rfl) (get_hq rfl rfl) (get_hq rfl rfl), ?_⟩
    try simp -implicitDefEqProofs (disch := first | decide | exact of_eq_true (eq_true rfl) | omega | assumption) only [ ↓vcD, vcE, ↓vcG, vcF, evs, evP, evB, intsOf, fillC, Value.cells, pt, Value.oneCell', reduceIte, reduceCtorEq, Nat.reduceEqDiff, Nat.reduceAdd, Nat.reduceMul, Nat.reduceLT, Nat.reduceBEq, Nat.reduceLeDiff, Nat.reduceSub]
    refine ITri.seq ?_
    refine ITri.reg pok ?_; simp -implicitDefEqProofs (disch := first | decide | exact of_eq_true (eq_true rfl) | omega | assumption) only [n20, decide_false, Bool.not_false,  ↓vcD, vcE, ↓vcG, vcF, evs, evP, evB, intsOf, fillC, Value.cells, pt, Value.oneCell', reduceIte, reduceCtorEq, Nat.reduceEqDiff, Nat.reduceAdd, Nat.reduceMul, Nat.reduceLT, Nat.reduceBEq, Nat.reduceLeDiff, Nat.reduceSub] -- r2
    refine ITri.cond (v := true) rfl (fun _ => ?_) (fun h => by cases h)
    refine ITri.seq ?_
    refine ITri.reg pok ?_; simp -implicitDefEqProofs (disch := first | decide | exact of_eq_true (eq_true rfl) | omega | assumption) only [ ↓vcD, vcE, ↓vcG, vcF, evs, evP, evB, intsOf, fillC, Value.cells, pt, Value.oneCell', reduceIte, reduceCtorEq, Nat.reduceEqDiff, Nat.reduceAdd, Nat.reduceMul, Nat.reduceLT, Nat.reduceBEq, Nat.reduceLeDiff, Nat.reduceSub] -- r3
    refine ITri.ret ?_; exact EndR.plain (by simp) (by rfl) (by rfl) (by rfl)
  · refine ⟨_, _, conflict_f hl hT hS hX hb hp hr hv (sees0 rfl (of_decide_eq_true rfl)) (get_hq rfl rfl) (get_hq rfl rfl) (get_hq rfl rfl), ?_⟩
    try simp -implicitDefEqProofs (disch := first | decide | exact of_eq_true (eq_true rfl) | omega | assumption) only [ ↓vcD, vcE, ↓vcG, vcF, evs, evP, evB, intsOf, fillC, Value.cells, pt, Value.oneCell', reduceIte, reduceCtorEq, Nat.reduceEqDiff, Nat.reduceAdd, Nat.reduceMul, Nat.reduceLT, Nat.reduceBEq, Nat.reduceLeDiff, Nat.reduceSub]
    refine ITri.seq ?_
    refine ITri.reg pok ?_; simp -implicitDefEqProofs (disch := first | decide | exact of_eq_true (eq_true rfl) | omega | assumption) only [decide_true, Bool.not_true,  ↓vcD, vcE, ↓vcG, vcF, evs, evP, evB, intsOf, fillC, Value.cells, pt, Value.oneCell', reduceIte, reduceCtorEq, Nat.reduceEqDiff, Nat.reduceAdd, Nat.reduceMul, Nat.reduceLT, Nat.reduceBEq, Nat.reduceLeDiff, Nat.reduceSub] -- r2
    refine ITri.cond (v := false) rfl (fun h => by cases h) (fun _ => ?_)
    refine ITri.seq ?_
    have ha' : a ≥ 0 := ha
    refine ITri.reg pok ?_; simp -implicitDefEqProofs (disch := first | decide | exact of_eq_true (eq_true rfl) | omega | assumption) only [ha', decide_true,  ↓vcD, vcE, ↓vcG, vcF, evs, evP, evB, intsOf, fillC, Value.cells, pt, Value.oneCell', reduceIte, reduceCtorEq, Nat.reduceEqDiff, Nat.reduceAdd, Nat.reduceMul, Nat.reduceLT, Nat.reduceBEq, Nat.reduceLeDiff, Nat.reduceSub] -- r4
    refine ITri.cond (v := true) rfl (fun _ => ?_) (fun h => by cases h)
    refine ITri.seq ?_
    refine ITri.reg pok ?_; simp -implicitDefEqProofs (disch := first | decide | exact of_eq_true (eq_true rfl) | omega | assumption) only [ ↓vcD, vcE, ↓vcG, vcF, evs, evP, evB, intsOf, fillC, Value.cells, pt, Value.oneCell', reduceIte, reduceCtorEq, Nat.reduceEqDiff, Nat.reduceAdd, Nat.reduceMul, Nat.reduceLT, Nat.reduceBEq, Nat.reduceLeDiff, Nat.reduceSub] -- r5
    refine ITri.ret ?_; exact EndR.plain (by simp) (by rfl) (by rfl) (by rfl)
theorem chartE_f (hl : ps.length = 117) (hT : T.length = nT) (hS : S.length = nS) (hX : X.length = nX) (hb : E < 9223372036854775807) (hE : BadC ps T S X E e) (h0 : h.sees 0 = true) (g1 : h.get k1 = some (.cells ⟨rows eT T, z1, o1⟩)) (g2 : h.get k2 = some (.cells ⟨rows eM S, z2, o2⟩)) (g3 : h.get k3 = some (.cells ⟨rows eII X, z3, o3⟩)) :
    Fc Try.prog 20 [.agg ⟨rows eI ps⟩, ruV (sO k1 nT) (sO k2 nS) (sO k3 nX) E] h (.tuple #[.pointer none, I6 e]) h :=
  Fc.liftP (os := []) (mk := fun ss => .agg ⟨rows eI ps⟩ :: (.agg ⟨ss.take 1 ++ [I6 E] ++ ss.drop 1⟩ :: [])) (mkv := fun _ => .tuple #[.pointer none, I6 e]) (cs := [(nT, rows eT T), (nS, rows eM S), (nX, rows eII X)]) (caps := [openB, openB, openB]) (ps := [(k1, 0, false), (k2, 0, false), (k3, 0, false)]) (chartE_c hl hT hS hX hb hE) (MkL.cons (rows_no (f := eI) ps) (MkL.agg1 (MkL.split rfl) rfl)) (MkV.const rfl) no3 (fun o ho => by cases ho) h0 (pl3 g1 g2 g3)
theorem acceptE_c (hl : ps.length = 117) (hT : T.length = nT) (hS : S.length = nS) (hX : X.length = nX) (hb : E < 9223372036854775807) (hE : BadC ps T S X E e) :
    Fc Try.prog 9 [.agg ⟨rows eI ps⟩, ruV (sO 1 nT) (sO 2 nS) (sO 3 nX) E] (Hp 4 (M4 T S X)) (.tuple #[.slice none 0 0, I6 e]) (Hp 4 (M4 T S X)) := by
  refine Fc.intro0 fn9 (by simp) rfl rfl ?_; simp only [argF]
  have hall1 : (rows eI ps).all Value.oneCell' = true := rows_one' (f := eI) ps
  have t117 := takeC_0 (rows eI ps) 117 (by rw [rows_len (f := eI), hl])
  have he : ¬ e = 0 := by
    rcases hE with ⟨_, rfl⟩ | ⟨_, _, rfl, _⟩ <;> decide
  refine ITri.seq ?_
  refine ITri.reg pok ?_; simp -implicitDefEqProofs (disch := first | decide | exact of_eq_true (eq_true rfl) | omega | assumption) only [hall1,  ↓vcD, vcE, ↓vcG, vcF, evs, evP, evB, intsOf, fillC, Value.cells, pt, Value.oneCell', reduceIte, reduceCtorEq, Nat.reduceEqDiff, Nat.reduceAdd, Nat.reduceMul, Nat.reduceLT, Nat.reduceBEq, Nat.reduceLeDiff, Nat.reduceSub] -- r0
  refine ITri.seq ?_
  refine ITri.reg pok ?_; simp -implicitDefEqProofs (disch := first | decide | exact of_eq_true (eq_true rfl) | omega | assumption) only [t117,  ↓vcD, vcE, ↓vcG, vcF, evs, evP, evB, intsOf, fillC, Value.cells, pt, Value.oneCell', reduceIte, reduceCtorEq, Nat.reduceEqDiff, Nat.reduceAdd, Nat.reduceMul, Nat.reduceLT, Nat.reduceBEq, Nat.reduceLeDiff, Nat.reduceSub] -- r1
  refine ⟨_, _, chartE_f hl hT hS hX hb hE (sees0 rfl (of_decide_eq_true rfl)) (get_hq rfl rfl) (get_hq rfl rfl) (get_hq rfl rfl), ?_⟩
  try simp -implicitDefEqProofs (disch := first | decide | exact of_eq_true (eq_true rfl) | omega | assumption) only [ ↓vcD, vcE, ↓vcG, vcF, evs, evP, evB, intsOf, fillC, Value.cells, pt, Value.oneCell', reduceIte, reduceCtorEq, Nat.reduceEqDiff, Nat.reduceAdd, Nat.reduceMul, Nat.reduceLT, Nat.reduceBEq, Nat.reduceLeDiff, Nat.reduceSub]
  refine ITri.seq ?_
  refine ITri.seq ?_
  refine ITri.reg pok ?_; simp -implicitDefEqProofs (disch := first | decide | exact of_eq_true (eq_true rfl) | omega | assumption) only [he, decide_false, Bool.not_false,  ↓vcD, vcE, ↓vcG, vcF, evs, evP, evB, intsOf, fillC, Value.cells, pt, Value.oneCell', reduceIte, reduceCtorEq, Nat.reduceEqDiff, Nat.reduceAdd, Nat.reduceMul, Nat.reduceLT, Nat.reduceBEq, Nat.reduceLeDiff, Nat.reduceSub] -- r2
  refine ITri.cond (v := true) rfl (fun _ => ?_) (fun h => by cases h)
  refine ITri.seq ?_
  refine ITri.reg pok ?_; simp -implicitDefEqProofs (disch := first | decide | exact of_eq_true (eq_true rfl) | omega | assumption) only [ ↓vcD, vcE, ↓vcG, vcF, evs, evP, evB, intsOf, fillC, Value.cells, pt, Value.oneCell', reduceIte, reduceCtorEq, Nat.reduceEqDiff, Nat.reduceAdd, Nat.reduceMul, Nat.reduceLT, Nat.reduceBEq, Nat.reduceLeDiff, Nat.reduceSub] -- r3
  refine ITri.ret ?_; exact EndR.plain (by simp) (by rfl) (by rfl) (by rfl)
theorem acceptE_f (hl : ps.length = 117) (hT : T.length = nT) (hS : S.length = nS) (hX : X.length = nX) (hb : E < 9223372036854775807) (hE : BadC ps T S X E e) (h0 : h.sees 0 = true) (g1 : h.get k1 = some (.cells ⟨rows eT T, z1, o1⟩)) (g2 : h.get k2 = some (.cells ⟨rows eM S, z2, o2⟩)) (g3 : h.get k3 = some (.cells ⟨rows eII X, z3, o3⟩)) :
    Fc Try.prog 9 [.agg ⟨rows eI ps⟩, ruV (sO k1 nT) (sO k2 nS) (sO k3 nX) E] h (.tuple #[.slice none 0 0, I6 e]) h :=
  Fc.liftP (os := []) (mk := fun ss => .agg ⟨rows eI ps⟩ :: (.agg ⟨ss.take 1 ++ [I6 E] ++ ss.drop 1⟩ :: [])) (mkv := fun _ => .tuple #[.slice none 0 0, I6 e]) (cs := [(nT, rows eT T), (nS, rows eM S), (nX, rows eII X)]) (caps := [openB, openB, openB]) (ps := [(k1, 0, false), (k2, 0, false), (k3, 0, false)]) (acceptE_c hl hT hS hX hb hE) (MkL.cons (rows_no (f := eI) ps) (MkL.agg1 (MkL.split rfl) rfl)) (MkV.const rfl) no3 (fun o ho => by cases ho) h0 (pl3 g1 g2 g3)
theorem accept_c (hT : T.length = nT) (hS : S.length = nS) (hX : X.length = nX) (G : GoodC ps T S X N) :
    Fc Try.prog 9 [.agg ⟨rows eI ps⟩, ruV (sO 1 nT) (sO 2 nS) (sO 3 nX) N] (Hp 4 (M4 T S X)) (.tuple #[sO 4 (rnL ps (BLs ps S N) (FLs ps S N) N).length, I6 0]) ((Hp 4 (M4 T S X)).news [.cells ⟨rows eII (rnL ps (BLs ps S N) (FLs ps S N) N), 2, true⟩]) := by
  refine Fc.introR fn9 (by simp) rfl rfl ?_; simp only [argF]
  have hl := G.pl
  have hall1 : (rows eI ps).all Value.oneCell' = true := rows_one' (f := eI) ps
  have t117 := takeC_0 (rows eI ps) 117 (by rw [rows_len (f := eI), hl])
  have C := G.ch
  have FC := fun {h : AH} {k1 k2 k3 z1 z2 z3 : Nat} {o1 o2 o3 : Bool} h0 g1 g2 g3 => chart_f (h := h) (k1 := k1) (k2 := k2) (k3 := k3) (z1 := z1) (z2 := z2) (z3 := z3) (o1 := o1) (o2 := o2) (o3 := o3) hT hS hX G h0 g1 g2 g3
  refine ITri.seq ?_
  refine ITri.reg pok ?_; simp -implicitDefEqProofs (disch := first | decide | exact of_eq_true (eq_true rfl) | omega | assumption) only [hall1,  ↓vcD, vcE, ↓vcG, vcF, evs, evP, evB, intsOf, fillC, Value.cells, pt, Value.oneCell', reduceIte, reduceCtorEq, Nat.reduceEqDiff, Nat.reduceAdd, Nat.reduceMul, Nat.reduceLT, Nat.reduceBEq, Nat.reduceLeDiff, Nat.reduceSub] -- r0
  refine ITri.seq ?_
  refine ITri.reg pok ?_; simp -implicitDefEqProofs (disch := first | decide | exact of_eq_true (eq_true rfl) | omega | assumption) only [t117,  ↓vcD, vcE, ↓vcG, vcF, evs, evP, evB, intsOf, fillC, Value.cells, pt, Value.oneCell', reduceIte, reduceCtorEq, Nat.reduceEqDiff, Nat.reduceAdd, Nat.reduceMul, Nat.reduceLT, Nat.reduceBEq, Nat.reduceLeDiff, Nat.reduceSub] -- r1
  refine ⟨_, _, FC (sees0 rfl (of_decide_eq_true rfl)) (get_hq rfl rfl) (get_hq rfl rfl) (get_hq rfl rfl), ?_⟩
  simp -implicitDefEqProofs (disch := first | decide | exact of_eq_true (eq_true rfl) | omega | assumption) only [news_c, news_n,  ↓vcD, vcE, ↓vcG, vcF, evs, evP, evB, intsOf, fillC, Value.cells, pt, Value.oneCell', reduceIte, reduceCtorEq, Nat.reduceEqDiff, Nat.reduceAdd, Nat.reduceMul, Nat.reduceLT, Nat.reduceBEq, Nat.reduceLeDiff, Nat.reduceSub]
  refine ITri.seq ?_
  refine ITri.seq ?_
  refine ITri.reg pok ?_; simp -implicitDefEqProofs (disch := first | decide | exact of_eq_true (eq_true rfl) | omega | assumption) only [decide_true, Bool.not_true,  ↓vcD, vcE, ↓vcG, vcF, evs, evP, evB, intsOf, fillC, Value.cells, pt, Value.oneCell', reduceIte, reduceCtorEq, Nat.reduceEqDiff, Nat.reduceAdd, Nat.reduceMul, Nat.reduceLT, Nat.reduceBEq, Nat.reduceLeDiff, Nat.reduceSub] -- r2
  refine ITri.cond (v := false) rfl (fun h => by cases h) (fun _ => ?_); refine ITri.skip ?_; simp only [SeqQ_normal, BlkQ_normal]
  refine ITri.seq ?_
  refine ITri.reg pok ?_; simp -implicitDefEqProofs (disch := first | decide | exact of_eq_true (eq_true rfl) | omega | assumption) only [ ↓vcD, vcE, ↓vcG, vcF, evs, evP, evB, intsOf, fillC, Value.cells, pt, Value.oneCell', reduceIte, reduceCtorEq, Nat.reduceEqDiff, Nat.reduceAdd, Nat.reduceMul, Nat.reduceLT, Nat.reduceBEq, Nat.reduceLeDiff, Nat.reduceSub] -- r4
  refine ⟨_, _, runs_f C (sees0 rfl (of_decide_eq_true rfl)) (get_hq rfl rfl) (get_hq rfl rfl) (get_hq rfl rfl), ?_⟩
  simp -implicitDefEqProofs (disch := first | decide | exact of_eq_true (eq_true rfl) | omega | assumption) only [news_c, news_n,  ↓vcD, vcE, ↓vcG, vcF, evs, evP, evB, intsOf, fillC, Value.cells, pt, Value.oneCell', reduceIte, reduceCtorEq, Nat.reduceEqDiff, Nat.reduceAdd, Nat.reduceMul, Nat.reduceLT, Nat.reduceBEq, Nat.reduceLeDiff, Nat.reduceSub]
  refine ITri.ret ?_
  exact end_mk (k := 9) (mk := fun s => .tuple #[s, I6 0]) ⟨fun _ _ _ => rfl, fun _ _ _ h => ⟨h, trivial, trivial⟩⟩ (by decide) (rows_no (f := eII) _) rfl (by rfl) rfl
theorem accept_f (hT : T.length = nT) (hS : S.length = nS) (hX : X.length = nX) (G : GoodC ps T S X N) (h0 : h.sees 0 = true) (g1 : h.get k1 = some (.cells ⟨rows eT T, z1, o1⟩)) (g2 : h.get k2 = some (.cells ⟨rows eM S, z2, o2⟩)) (g3 : h.get k3 = some (.cells ⟨rows eII X, z3, o3⟩)) :
    Fc Try.prog 9 [.agg ⟨rows eI ps⟩, ruV (sO k1 nT) (sO k2 nS) (sO k3 nX) N] h (.tuple #[sO h.next (rnL ps (BLs ps S N) (FLs ps S N) N).length, I6 0]) (h.news [.cells ⟨rows eII (rnL ps (BLs ps S N) (FLs ps S N) N), 2, true⟩]) := by
  have := accept_c hT hS hX G
  rw [Hq_news] at this
  exact Fc.liftP (os := [((rnL ps (BLs ps S N) (FLs ps S N) N).length, rows eII (rnL ps (BLs ps S N) (FLs ps S N) N), 2)]) (mk := fun ss => .agg ⟨rows eI ps⟩ :: (.agg ⟨ss.take 1 ++ [I6 N] ++ ss.drop 1⟩ :: [])) (mkv := fun ss => .tuple ⟨ss ++ [I6 0]⟩) (cs := [(nT, rows eT T), (nS, rows eM S), (nX, rows eII X)]) (caps := [openB, openB, openB]) (ps := [(k1, 0, false), (k2, 0, false), (k3, 0, false)]) this (MkL.cons (rows_no (f := eI) ps) (MkL.agg1 (MkL.split rfl) rfl)) (MkV.tup (MkL.app rfl)) no3 (fun o ho => by
    simp only [List.mem_cons, List.not_mem_nil, or_false] at ho
    subst ho
    exact rows_no (f := eII) _) h0 (pl3 g1 g2 g3)
theorem tell_c (hT : T.length = nT) (hS : S.length = nS) (hX : X.length = nX) (G : GoodC ps T S X N) (ht : t < N) (h0S : 0 < S.length) :
    Fc Try.prog 23 [.agg ⟨rows eI ps⟩, ruV (sO 1 nT) (sO 2 nS) (sO 3 nX) N, I6 t, I6 ((N : Int) - 1), .func (.func 24) #[] #[]] (Hp 4 (M4 T S X)) (.tuple #[.agg #[I6 (btwF ps (BLs ps S N) (FLs ps S N) t).l, I6 (btwF ps (BLs ps S N) (FLs ps S N) t).h], I6 0]) (Hp 4 (M4 T S X)) := by
  refine Fc.intro0 fn23 (by simp) rfl rfl ?_; simp only [argF]
  have hl := G.pl
  have hall1 : (rows eI ps).all Value.oneCell' = true := rows_one' (f := eI) ps
  have t117 := takeC_0 (rows eI ps) 117 (by rw [rows_len (f := eI), hl])
  have C := G.ch
  have hN := G.n
  have FC := fun {h : AH} {k1 k2 k3 z1 z2 z3 : Nat} {o1 o2 o3 : Bool} h0 g1 g2 g3 => chart_f (h := h) (k1 := k1) (k2 := k2) (k3 := k3) (z1 := z1) (z2 := z2) (z3 := z3) (o1 := o1) (o2 := o2) (o3 := o3) hT hS hX G h0 g1 g2 g3
  have wr2 : ∀ a b z0 z1 : Value, writeAt [z0, z1] 0 [a, b] = [a, b] := fun a b z0 z1 => rfl
  refine ITri.seq ?_
  refine ITri.reg pok ?_; simp -implicitDefEqProofs (disch := first | decide | exact of_eq_true (eq_true rfl) | omega | assumption) only [hall1,  ↓vcD, vcE, ↓vcG, vcF, evs, evP, evB, intsOf, fillC, Value.cells, pt, Value.oneCell', reduceIte, reduceCtorEq, Nat.reduceEqDiff, Nat.reduceAdd, Nat.reduceMul, Nat.reduceLT, Nat.reduceBEq, Nat.reduceLeDiff, Nat.reduceSub] -- r0
  refine ITri.seq ?_
  refine ITri.seq ?_
  refine ITri.reg pok ?_; simp -implicitDefEqProofs (disch := first | decide | exact of_eq_true (eq_true rfl) | omega | assumption) only [t117,  ↓vcD, vcE, ↓vcG, vcF, evs, evP, evB, intsOf, fillC, Value.cells, pt, Value.oneCell', reduceIte, reduceCtorEq, Nat.reduceEqDiff, Nat.reduceAdd, Nat.reduceMul, Nat.reduceLT, Nat.reduceBEq, Nat.reduceLeDiff, Nat.reduceSub] -- r1
  refine ⟨_, _, both_f (e := 0) hl hT hS hX (by omega) (.inl ⟨G.p, G.r, rfl⟩) (sees0 rfl (of_decide_eq_true rfl)) (Rd.hq rfl rfl) (Rd.hq rfl rfl) (Rd.hq rfl rfl), ?_⟩
  try simp -implicitDefEqProofs (disch := first | decide | exact of_eq_true (eq_true rfl) | omega | assumption) only [ ↓vcD, vcE, ↓vcG, vcF, evs, evP, evB, intsOf, fillC, Value.cells, pt, Value.oneCell', reduceIte, reduceCtorEq, Nat.reduceEqDiff, Nat.reduceAdd, Nat.reduceMul, Nat.reduceLT, Nat.reduceBEq, Nat.reduceLeDiff, Nat.reduceSub]
  refine ITri.seq ?_
  refine ITri.reg pok ?_; simp -implicitDefEqProofs (disch := first | decide | exact of_eq_true (eq_true rfl) | omega | assumption) only [decide_true, Bool.not_true,  ↓vcD, vcE, ↓vcG, vcF, evs, evP, evB, intsOf, fillC, Value.cells, pt, Value.oneCell', reduceIte, reduceCtorEq, Nat.reduceEqDiff, Nat.reduceAdd, Nat.reduceMul, Nat.reduceLT, Nat.reduceBEq, Nat.reduceLeDiff, Nat.reduceSub] -- r2
  refine ITri.cond (v := false) rfl (fun h => by cases h) (fun _ => ?_); refine ITri.skip ?_; simp only [SeqQ_normal, BlkQ_normal]
  refine ITri.seq ?_
  refine ITri.block ?_ -- 0
  refine ITri.seq ?_
  have c1 : ¬ (t : Int) < 0 := by omega
  have c2 : ¬ (t : Int) > (N : Int) - 1 := by omega
  refine ITri.reg pok ?_; simp -implicitDefEqProofs (disch := first | decide | exact of_eq_true (eq_true rfl) | omega | assumption) only [c1, c2, decide_false,  ↓vcD, vcE, ↓vcG, vcF, evs, evP, evB, intsOf, fillC, Value.cells, pt, Value.oneCell', reduceIte, reduceCtorEq, Nat.reduceEqDiff, Nat.reduceAdd, Nat.reduceMul, Nat.reduceLT, Nat.reduceBEq, Nat.reduceLeDiff, Nat.reduceSub] -- r4
  refine ITri.cond (v := false) rfl (fun h => by cases h) (fun _ => ?_)
  refine ITri.seq ?_
  have c3 : ¬ (nS : Int) = 0 := by omega
  refine ITri.reg pok ?_; simp -implicitDefEqProofs (disch := first | decide | exact of_eq_true (eq_true rfl) | omega | assumption) only [c3, decide_false,  ↓vcD, vcE, ↓vcG, vcF, evs, evP, evB, intsOf, fillC, Value.cells, pt, Value.oneCell', reduceIte, reduceCtorEq, Nat.reduceEqDiff, Nat.reduceAdd, Nat.reduceMul, Nat.reduceLT, Nat.reduceBEq, Nat.reduceLeDiff, Nat.reduceSub] -- r6
  refine ITri.cond (v := false) rfl (fun h => by cases h) (fun _ => ?_); refine ITri.skip ?_; simp only [SeqQ_normal, BlkQ_normal]
  refine ITri.seq ?_
  refine ITri.reg pok ?_; simp -implicitDefEqProofs (disch := first | decide | exact of_eq_true (eq_true rfl) | omega | assumption) only [t117,  ↓vcD, vcE, ↓vcG, vcF, evs, evP, evB, intsOf, fillC, Value.cells, pt, Value.oneCell', reduceIte, reduceCtorEq, Nat.reduceEqDiff, Nat.reduceAdd, Nat.reduceMul, Nat.reduceLT, Nat.reduceBEq, Nat.reduceLeDiff, Nat.reduceSub] -- r8
  refine ⟨_, _, FC (sees0 rfl (of_decide_eq_true rfl)) (get_hq rfl rfl) (get_hq rfl rfl) (get_hq rfl rfl), ?_⟩
  simp -implicitDefEqProofs (disch := first | decide | exact of_eq_true (eq_true rfl) | omega | assumption) only [news_c, news_n,  ↓vcD, vcE, ↓vcG, vcF, evs, evP, evB, intsOf, fillC, Value.cells, pt, Value.oneCell', reduceIte, reduceCtorEq, Nat.reduceEqDiff, Nat.reduceAdd, Nat.reduceMul, Nat.reduceLT, Nat.reduceBEq, Nat.reduceLeDiff, Nat.reduceSub]
  refine ITri.seq ?_
  refine ITri.seq ?_
  refine ITri.reg pok ?_; simp -implicitDefEqProofs (disch := first | decide | exact of_eq_true (eq_true rfl) | omega | assumption) only [decide_true, Bool.not_true,  ↓vcD, vcE, ↓vcG, vcF, evs, evP, evB, intsOf, fillC, Value.cells, pt, Value.oneCell', reduceIte, reduceCtorEq, Nat.reduceEqDiff, Nat.reduceAdd, Nat.reduceMul, Nat.reduceLT, Nat.reduceBEq, Nat.reduceLeDiff, Nat.reduceSub] -- r9
  refine ITri.cond (v := false) rfl (fun h => by cases h) (fun _ => ?_); refine ITri.skip ?_; simp only [SeqQ_normal, BlkQ_normal]
  refine ITri.seq ?_
  refine ITri.reg pok ?_; simp -implicitDefEqProofs (disch := first | decide | exact of_eq_true (eq_true rfl) | omega | assumption) only [ ↓vcD, vcE, ↓vcG, vcF, evs, evP, evB, intsOf, fillC, Value.cells, pt, Value.oneCell', reduceIte, reduceCtorEq, Nat.reduceEqDiff, Nat.reduceAdd, Nat.reduceMul, Nat.reduceLT, Nat.reduceBEq, Nat.reduceLeDiff, Nat.reduceSub] -- r11
  refine ⟨_, _, btw_f C (by omega) (sees0 rfl (of_decide_eq_true rfl)) (get_hq rfl rfl) (get_hq rfl rfl) (get_hq rfl rfl), ?_⟩
  simp -implicitDefEqProofs (disch := first | decide | exact of_eq_true (eq_true rfl) | omega | assumption) only [wr33,  ↓vcD, vcE, ↓vcG, vcF, evs, evP, evB, intsOf, fillC, Value.cells, pt, Value.oneCell', reduceIte, reduceCtorEq, Nat.reduceEqDiff, Nat.reduceAdd, Nat.reduceMul, Nat.reduceLT, Nat.reduceBEq, Nat.reduceLeDiff, Nat.reduceSub]
  refine ITri.seq ?_
  refine ITri.reg pok ?_; simp -implicitDefEqProofs (disch := first | decide | exact of_eq_true (eq_true rfl) | omega | assumption) only [wr2,  ↓vcD, vcE, ↓vcG, vcF, evs, evP, evB, intsOf, fillC, Value.cells, pt, Value.oneCell', reduceIte, reduceCtorEq, Nat.reduceEqDiff, Nat.reduceAdd, Nat.reduceMul, Nat.reduceLT, Nat.reduceBEq, Nat.reduceLeDiff, Nat.reduceSub] -- r12
  refine ITri.ret ?_; exact EndR.plain (vs := [.agg ⟨[I6 (btwF ps (BLs ps S N) (FLs ps S N) t).l, I6 (btwF ps (BLs ps S N) (FLs ps S N) t).h]⟩, I6 0]) (by simp) (resF_agg 2 rfl (by kernel_rfl) (by simp -implicitDefEqProofs (disch := first | decide | exact of_eq_true (eq_true rfl) | omega | assumption) only [↓vcD, vcE, ↓vcG, vcF, evs, evP, evB, intsOf, fillC, Value.cells, pt, Value.oneCell', reduceIte, reduceCtorEq, Nat.reduceEqDiff, Nat.reduceAdd, Nat.reduceMul, Nat.reduceLT, Nat.reduceBEq, Nat.reduceLeDiff, Nat.reduceSub]) (resF_tmp rfl resF_nil)) (by rfl) (by rfl)
theorem tell_f (hT : T.length = nT) (hS : S.length = nS) (hX : X.length = nX) (G : GoodC ps T S X N) (ht : t < N) (h0S : 0 < S.length) (h0 : h.sees 0 = true) (g1 : h.get k1 = some (.cells ⟨rows eT T, z1, o1⟩)) (g2 : h.get k2 = some (.cells ⟨rows eM S, z2, o2⟩)) (g3 : h.get k3 = some (.cells ⟨rows eII X, z3, o3⟩)) :
    Fc Try.prog 23 [.agg ⟨rows eI ps⟩, ruV (sO k1 nT) (sO k2 nS) (sO k3 nX) N, I6 t, I6 ((N : Int) - 1), .func (.func 24) #[] #[]] h (.tuple #[.agg #[I6 (btwF ps (BLs ps S N) (FLs ps S N) t).l, I6 (btwF ps (BLs ps S N) (FLs ps S N) t).h], I6 0]) h :=
  Fc.liftP (os := []) (mk := fun ss => .agg ⟨rows eI ps⟩ :: (.agg ⟨ss.take 1 ++ [I6 N] ++ ss.drop 1⟩ :: [I6 t, I6 ((N : Int) - 1), .func (.func 24) #[] #[]])) (mkv := fun _ => .tuple #[.agg #[I6 (btwF ps (BLs ps S N) (FLs ps S N) t).l, I6 (btwF ps (BLs ps S N) (FLs ps S N) t).h], I6 0]) (cs := [(nT, rows eT T), (nS, rows eM S), (nX, rows eII X)]) (caps := [openB, openB, openB]) (ps := [(k1, 0, false), (k2, 0, false), (k3, 0, false)]) (tell_c hT hS hX G ht h0S) (MkL.cons (rows_no (f := eI) ps) (MkL.agg1 (MkL.split rfl) rfl)) (MkV.const rfl) no3 (fun o ho => by cases ho) h0 (pl3 g1 g2 g3)
theorem between_c (hT : T.length = nT) (hS : S.length = nS) (hX : X.length = nX) (G : GoodC ps T S X N) (ht : t < N) (h0S : 0 < S.length) :
    Fc Try.prog 10 [.agg ⟨rows eI ps⟩, ruV (sO 1 nT) (sO 2 nS) (sO 3 nX) N, I6 t] (Hp 4 (M4 T S X)) (.tuple #[.agg #[I6 (btwF ps (BLs ps S N) (FLs ps S N) t).l, I6 (btwF ps (BLs ps S N) (FLs ps S N) t).h], I6 0]) (Hp 4 (M4 T S X)) := by
  refine Fc.intro0 fn10 (by simp) rfl rfl ?_; simp only [argF]
  have hl := G.pl
  have hN := G.n
  have hall1 : (rows eI ps).all Value.oneCell' = true := rows_one' (f := eI) ps
  have t117 := takeC_0 (rows eI ps) 117 (by rw [rows_len (f := eI), hl])
  have wr2 : ∀ a b z0 z1 : Value, writeAt [z0, z1] 0 [a, b] = [a, b] := fun a b z0 z1 => rfl
  have FT := fun {h : AH} {k1 k2 k3 z1 z2 z3 : Nat} {o1 o2 o3 : Bool} h0 g1 g2 g3 => tell_f (h := h) (k1 := k1) (k2 := k2) (k3 := k3) (z1 := z1) (z2 := z2) (z3 := z3) (o1 := o1) (o2 := o2) (o3 := o3) hT hS hX G ht h0S h0 g1 g2 g3
  generalize (btwF ps (BLs ps S N) (FLs ps S N) t).l = kl at *
  generalize (btwF ps (BLs ps S N) (FLs ps S N) t).h = kh at *
  refine ITri.seq ?_
  refine ITri.reg pok ?_; simp -implicitDefEqProofs (disch := first | decide | exact of_eq_true (eq_true rfl) | omega | assumption) only [hall1,  ↓vcD, vcE, ↓vcG, vcF, evs, evP, evB, intsOf, fillC, Value.cells, pt, Value.oneCell', reduceIte, reduceCtorEq, Nat.reduceEqDiff, Nat.reduceAdd, Nat.reduceMul, Nat.reduceLT, Nat.reduceBEq, Nat.reduceLeDiff, Nat.reduceSub] -- r0
  refine ITri.seq ?_
  refine ITri.reg pok ?_; simp -implicitDefEqProofs (disch := first | decide | exact of_eq_true (eq_true rfl) | omega | assumption) only [t117,  ↓vcD, vcE, ↓vcG, vcF, evs, evP, evB, intsOf, fillC, Value.cells, pt, Value.oneCell', reduceIte, reduceCtorEq, Nat.reduceEqDiff, Nat.reduceAdd, Nat.reduceMul, Nat.reduceLT, Nat.reduceBEq, Nat.reduceLeDiff, Nat.reduceSub] -- r1
  refine ⟨_, _, FT (sees0 rfl (of_decide_eq_true rfl)) (get_hq rfl rfl) (get_hq rfl rfl) (get_hq rfl rfl), ?_⟩
  simp -implicitDefEqProofs (disch := first | decide | exact of_eq_true (eq_true rfl) | omega | assumption) only [wr2,  ↓vcD, vcE, ↓vcG, vcF, evs, evP, evB, intsOf, fillC, Value.cells, pt, Value.oneCell', reduceIte, reduceCtorEq, Nat.reduceEqDiff, Nat.reduceAdd, Nat.reduceMul, Nat.reduceLT, Nat.reduceBEq, Nat.reduceLeDiff, Nat.reduceSub]
  refine ITri.ret ?_; exact EndR.plain (vs := [.agg ⟨[I6 kl, I6 kh]⟩, I6 0]) (by simp) (resF_agg 2 rfl (by kernel_rfl) (by simp -implicitDefEqProofs (disch := first | decide | exact of_eq_true (eq_true rfl) | omega | assumption) only [↓vcD, vcE, ↓vcG, vcF, evs, evP, evB, intsOf, fillC, Value.cells, pt, Value.oneCell', reduceIte, reduceCtorEq, Nat.reduceEqDiff, Nat.reduceAdd, Nat.reduceMul, Nat.reduceLT, Nat.reduceBEq, Nat.reduceLeDiff, Nat.reduceSub]) (resF_tmp rfl resF_nil)) (by rfl) (by rfl)
theorem between_f (hT : T.length = nT) (hS : S.length = nS) (hX : X.length = nX) (G : GoodC ps T S X N) (ht : t < N) (h0S : 0 < S.length) (h0 : h.sees 0 = true) (g1 : h.get k1 = some (.cells ⟨rows eT T, z1, o1⟩)) (g2 : h.get k2 = some (.cells ⟨rows eM S, z2, o2⟩)) (g3 : h.get k3 = some (.cells ⟨rows eII X, z3, o3⟩)) :
    Fc Try.prog 10 [.agg ⟨rows eI ps⟩, ruV (sO k1 nT) (sO k2 nS) (sO k3 nX) N, I6 t] h (.tuple #[.agg #[I6 (btwF ps (BLs ps S N) (FLs ps S N) t).l, I6 (btwF ps (BLs ps S N) (FLs ps S N) t).h], I6 0]) h :=
  Fc.liftP (os := []) (mk := fun ss => .agg ⟨rows eI ps⟩ :: (.agg ⟨ss.take 1 ++ [I6 N] ++ ss.drop 1⟩ :: [I6 t])) (mkv := fun _ => .tuple #[.agg #[I6 (btwF ps (BLs ps S N) (FLs ps S N) t).l, I6 (btwF ps (BLs ps S N) (FLs ps S N) t).h], I6 0]) (cs := [(nT, rows eT T), (nS, rows eM S), (nX, rows eII X)]) (caps := [openB, openB, openB]) (ps := [(k1, 0, false), (k2, 0, false), (k3, 0, false)]) (between_c hT hS hX G ht h0S) (MkL.cons (rows_no (f := eI) ps) (MkL.agg1 (MkL.split rfl) rfl)) (MkV.const rfl) no3 (fun o ho => by cases ho) h0 (pl3 g1 g2 g3)
end
end Go.Proofs.Yteddklolpcpjaaa
