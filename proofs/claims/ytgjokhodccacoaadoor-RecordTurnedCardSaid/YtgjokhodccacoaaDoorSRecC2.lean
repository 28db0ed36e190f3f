/-
  Chapter 6: record.Turn, by names.
-/
import Derived.Test.YtgjokhodccacoaaDoorSRecC1
set_option linter.unusedSimpArgs false
set_option linter.unusedVariables false
namespace Go.Proofs.YtgjokhodccacoaaDoor
open Go.RowKit Go.Vm
set_option maxRecDepth 100000
/-- What a turned map is: cells, width, height, error. -/
def turnR (W H : Int) (xs : List Int) (q : Int) : List Int × Int × Int × Int :=
  if mOK W H xs = true then if inT q 0 3 = true then (trnF W.toNat H.toNat q.toNat xs, (wOf W.toNat H.toNat q.toNat : Int), (wOf H.toNat W.toNat q.toNat : Int), 0) else ([], 0, 0, 3) else ([], 0, 0, 2)
abbrev tuV (b : Nat) (r : List Int × Int × Int × Int) : Value := .tuple #[mV b r.1.length openB r.2.1 r.2.2.1, .int .i64 r.2.2.2]
theorem mvT (W H e : Int) : MvV fun s => .tuple #[.agg #[.int .i64 W, .int .i64 H, s], .int .i64 e] := ⟨fun _ _ _ => rfl, fun _ _ _ h => ⟨⟨trivial, trivial, h, trivial⟩, trivial, trivial⟩⟩
theorem mOK_parts {W H : Int} {xs : List Int} (h : mOK W H xs = true) : ∃ w h : Nat, W = w ∧ H = h ∧ 1 ≤ w ∧ w ≤ 60 ∧ 1 ≤ h ∧ h ≤ 60 ∧ xs.length = w * h ∧ w * h ≤ 3600 := by
  unfold mOK at h
  simp only [Bool.and_eq_true, decide_eq_true_eq] at h
  obtain ⟨⟨⟨h1, h2⟩, h3⟩, h4⟩ := h
  obtain ⟨m1, m2⟩ := mul_bd h1 h2
  obtain ⟨a, b⟩ := inT_ok h1
  obtain ⟨c, d⟩ := inT_ok h2
  obtain ⟨w, rfl⟩ := Int.eq_ofNat_of_zero_le (show 0 ≤ W by omega)
  obtain ⟨h, rfl⟩ := Int.eq_ofNat_of_zero_le (show 0 ≤ H by omega)
  rw [← Int.natCast_mul] at h3 m2
  refine ⟨w, h, rfl, rfl, by omega, by omega, by omega, by omega, by omega, by omega⟩
/- boule/record.Turn · slots 86 · names 0:m 1:quarters 2:m 3:quarters 6:out 7:i 8:c 9:x 10:y 11:w 12:h · results [4, 5] -/
def ir56_r0 : IC := .reg [⟨some 2, none, false, .box (.t 0)⟩,
  ⟨some 4, none, false, .alloc [(.int .i64 0), (.int .i64 0), (.slice none 0 0)]⟩,
  ⟨some 5, none, false, .mv (.k (.int .i64 0))⟩] (some [1, 2, 4])
def ir56_r1 : IC := .reg [⟨some 14, none, false, .lda 3 (.t 2)⟩,
  ⟨some 15, none, false, .call (.f 36) [(.t 14)]⟩,
  ⟨some 16, none, false, .cmp .neq (.t 15) (.k (.int .i64 0))⟩,
  ⟨some 13, none, false, .mv (.t 16)⟩] (some [1, 2, 4, 13])
def ir56_r2 : IC := .reg [⟨some 17, none, false, .bld [(.int .i64 0), (.int .i64 0), (.slice none 0 0)] []⟩,
  ⟨none, none, false, .st 3 (.t 4) (.t 17)⟩,
  ⟨some 5, none, false, .mv (.k (.int .i64 2))⟩] (some [4, 5])
def ir56_1 : IC := .seq ir56_r2 .ret
def ir56_r3 : IC := .reg [⟨some 19, none, false, .mv (.t 1)⟩,
  ⟨some 20, none, false, .cmp .lss (.t 19) (.k (.int .i64 0))⟩,
  ⟨some 21, none, false, .mv (.t 20)⟩,
  ⟨some 22, some (21, false), false, .mv (.t 1)⟩,
  ⟨some 23, some (21, false), false, .cmp .gtr (.t 22) (.k (.int .i64 3))⟩,
  ⟨some 24, none, false, .pick (.t 21) (.k (.bool true)) (.t 23)⟩,
  ⟨some 18, none, false, .mv (.t 24)⟩] (some [1, 2, 4, 18])
def ir56_r4 : IC := .reg [⟨some 25, none, false, .bld [(.int .i64 0), (.int .i64 0), (.slice none 0 0)] []⟩,
  ⟨none, none, false, .st 3 (.t 4) (.t 25)⟩,
  ⟨some 5, none, false, .mv (.k (.int .i64 3))⟩] (some [4, 5])
def ir56_2 : IC := .seq ir56_r4 .ret
def ir56_3 : IC := .cond (.t 18) ir56_2 .skip
def ir56_4 : IC := .seq ir56_r3 ir56_3
def ir56_5 : IC := .cond (.t 13) ir56_1 ir56_4
def ir56_6 : IC := .seq ir56_r1 ir56_5
def ir56_7 : IC := .block 0 ir56_6
def ir56_r5 : IC := .draw [(⟨some 26, none, false, .fad 0 (.t 2)⟩, false, 0, 0),
  (⟨some 27, none, false, .ldc (.t 26)⟩, false, 1, 1),
  (⟨some 28, none, false, .fad 1 (.t 2)⟩, false, 0, 0),
  (⟨some 29, none, false, .ldc (.t 28)⟩, false, 4, 2),
  (⟨some 30, none, false, .fad 2 (.t 2)⟩, false, 0, 0),
  (⟨some 31, none, false, .ldc (.t 30)⟩, false, 16, 6),
  (⟨some 32, none, false, .len (.t 31)⟩, false, 48, 6),
  (⟨some 33, none, false, .mks 1 [(.int .i64 0)] (.t 32) (.t 32)⟩, false, 112, 6),
  (⟨some 34, none, false, .bld [(.int .i64 0), (.int .i64 0), (.slice none 0 0)] [(0, 1, (.t 27)), (1, 1, (.t 29)), (2, 1, (.t 33))]⟩, false, 255, 0),
  (⟨some 6, none, false, .alloc [(.int .i64 0), (.int .i64 0), (.slice none 0 0)]⟩, false, 0, 118),
  (⟨none, none, false, .st 3 (.t 6) (.t 34)⟩, true, 1023, 0)] (some [1, 2, 4, 6])
def ir56_r6 : IC := .reg [⟨some 35, none, false, .mv (.t 1)⟩,
  ⟨some 36, none, false, .div .rem (.t 35) (.k (.int .i64 2))⟩,
  ⟨some 37, none, false, .cmp .eql (.t 36) (.k (.int .i64 1))⟩] (some [1, 2, 4, 6, 37])
def ir56_r7 : IC := .drawF [(⟨some 38, none, false, .fad 1 (.t 2)⟩, false, 0, 0),
  (⟨some 39, none, false, .ldc (.t 38)⟩, true, 1, 0),
  (⟨some 40, none, false, .fad 0 (.t 2)⟩, false, 0, 0),
  (⟨some 41, none, false, .ldc (.t 40)⟩, true, 4, 2),
  (⟨some 42, none, false, .fad 0 (.t 6)⟩, false, 3, 0),
  (⟨none, none, false, .st 1 (.t 42) (.t 39)⟩, true, 19, 0),
  (⟨some 43, none, false, .fad 1 (.t 6)⟩, false, 63, 0),
  (⟨none, none, false, .st 1 (.t 43) (.t 41)⟩, true, 127, 1)] (some [1, 2, 4, 6])
def ir56_8 : IC := .cond (.t 37) ir56_r7 .skip
def ir56_9 : IC := .seq ir56_r6 ir56_8
def ir56_r8 : IC := .reg [⟨some 44, none, false, .fad 2 (.t 2)⟩,
  ⟨some 45, none, false, .ldc (.t 44)⟩,
  ⟨some 46, none, false, .len (.t 45)⟩,
  ⟨some 47, none, false, .mv (.k (.int .i64 0))⟩] (some [1, 2, 4, 6, 45, 46, 47])
def ir56_r9 : IC := .reg [⟨some 48, none, false, .cmp .lss (.t 47) (.t 46)⟩] (some [1, 2, 4, 6, 45, 46, 47, 48])
def ir56_10 : IC := .cond (.t 48) .skip (.exit 1)
def ir56_r10 : IC := .reg [⟨some 49, none, false, .mv (.t 47)⟩,
  ⟨some 50, none, false, .iad 1 (.t 45) (.t 47)⟩,
  ⟨some 51, none, false, .ldc (.t 50)⟩,
  ⟨some 7, none, false, .mv (.t 49)⟩,
  ⟨some 8, none, false, .mv (.t 51)⟩] (some [1, 2, 4, 6, 7, 8, 45, 46, 47])
def ir56_r11 : IC := .draw [(⟨some 52, none, false, .mv (.t 7)⟩, false, 0, 0),
  (⟨some 53, none, false, .fad 0 (.t 2)⟩, false, 0, 0),
  (⟨some 54, none, false, .ldc (.t 53)⟩, false, 2, 1),
  (⟨some 55, none, false, .div .rem (.t 52) (.t 54)⟩, false, 7, 0),
  (⟨some 56, none, false, .mv (.t 7)⟩, false, 0, 0),
  (⟨some 57, none, false, .fad 0 (.t 2)⟩, false, 0, 0),
  (⟨some 58, none, false, .ldc (.t 57)⟩, false, 32, 3),
  (⟨some 59, none, false, .div .quo (.t 56) (.t 58)⟩, false, 112, 0),
  (⟨some 9, none, false, .mv (.t 55)⟩, false, 15, 0),
  (⟨some 10, none, false, .mv (.t 59)⟩, false, 511, 0)] (some [1, 2, 4, 6, 8, 9, 10, 45, 46, 47])
def ir56_r12 : IC := .draw [(⟨some 60, none, false, .fad 0 (.t 2)⟩, false, 0, 0),
  (⟨some 61, none, false, .ldc (.t 60)⟩, false, 1, 1),
  (⟨some 62, none, false, .fad 1 (.t 2)⟩, false, 0, 0),
  (⟨some 63, none, false, .ldc (.t 62)⟩, false, 4, 2),
  (⟨some 11, none, false, .mv (.t 61)⟩, false, 3, 0),
  (⟨some 12, none, false, .mv (.t 63)⟩, false, 31, 0)] (some [1, 2, 4, 6, 8, 9, 10, 11, 12, 45, 46, 47])
def ir56_r13 : IC := .reg [⟨some 64, none, false, .mv (.t 1)⟩,
  ⟨some 65, none, false, .mv (.k (.int .i64 0))⟩] (some [1, 2, 4, 6, 8, 9, 10, 11, 12, 45, 46, 47, 64, 65])
def ir56_r14 : IC := .reg [⟨some 66, none, false, .cmp .lss (.t 65) (.t 64)⟩] (some [1, 2, 4, 6, 8, 9, 10, 11, 12, 45, 46, 47, 64, 65, 66])
def ir56_11 : IC := .cond (.t 66) .skip (.exit 3)
def ir56_r15 : IC := .reg [⟨some 67, none, false, .mv (.t 12)⟩,
  ⟨some 68, none, false, .ar .sub (.t 67) (.k (.int .i64 1))⟩,
  ⟨some 69, none, false, .mv (.t 10)⟩,
  ⟨some 70, none, false, .ar .sub (.t 68) (.t 69)⟩,
  ⟨some 71, none, false, .mv (.t 9)⟩,
  ⟨some 72, none, false, .mv (.t 12)⟩,
  ⟨some 73, none, false, .mv (.t 11)⟩,
  ⟨some 9, none, false, .mv (.t 70)⟩,
  ⟨some 10, none, false, .mv (.t 71)⟩,
  ⟨some 11, none, false, .mv (.t 72)⟩,
  ⟨some 12, none, false, .mv (.t 73)⟩] (some [1, 2, 4, 6, 8, 9, 10, 11, 12, 45, 46, 47, 64, 65])
def ir56_12 : IC := .block 4 ir56_r15
def ir56_r16 : IC := .reg [⟨some 74, none, false, .ar .add (.t 65) (.k (.int .i64 1))⟩,
  ⟨some 65, none, false, .mv (.t 74)⟩] (some [1, 2, 4, 6, 8, 9, 10, 11, 12, 45, 46, 47, 64, 65])
def ir56_13 : IC := .seq ir56_12 ir56_r16
def ir56_14 : IC := .seq ir56_11 ir56_13
def ir56_15 : IC := .seq ir56_r14 ir56_14
def ir56_16 : IC := .loop ir56_15
def ir56_17 : IC := .block 3 ir56_16
def ir56_18 : IC := .seq ir56_r13 ir56_17
def ir56_r17 : IC := .reg [⟨some 75, none, false, .fad 2 (.t 6)⟩,
  ⟨some 76, none, false, .ldc (.t 75)⟩,
  ⟨some 77, none, false, .mv (.t 10)⟩,
  ⟨some 78, none, false, .mv (.t 11)⟩,
  ⟨some 79, none, false, .ar .mul (.t 77) (.t 78)⟩,
  ⟨some 80, none, false, .mv (.t 9)⟩,
  ⟨some 81, none, false, .ar .add (.t 79) (.t 80)⟩,
  ⟨some 82, none, false, .mv (.t 8)⟩,
  ⟨some 83, none, false, .iad 1 (.t 76) (.t 81)⟩,
  ⟨none, none, false, .st 1 (.t 83) (.t 82)⟩] (some [1, 2, 4, 6, 45, 46, 47])
def ir56_19 : IC := .seq ir56_18 ir56_r17
def ir56_20 : IC := .seq ir56_r12 ir56_19
def ir56_21 : IC := .seq ir56_r11 ir56_20
def ir56_22 : IC := .seq ir56_r10 ir56_21
def ir56_23 : IC := .block 2 ir56_22
def ir56_r18 : IC := .reg [⟨some 84, none, false, .ar .add (.t 47) (.k (.int .i64 1))⟩,
  ⟨some 47, none, false, .mv (.t 84)⟩] (some [1, 2, 4, 6, 45, 46, 47])
def ir56_24 : IC := .seq ir56_23 ir56_r18
def ir56_25 : IC := .seq ir56_10 ir56_24
def ir56_26 : IC := .seq ir56_r9 ir56_25
def ir56_27 : IC := .loop ir56_26
def ir56_28 : IC := .block 1 ir56_27
def ir56_29 : IC := .seq ir56_r8 ir56_28
def ir56_r19 : IC := .reg [⟨some 85, none, false, .lda 3 (.t 6)⟩,
  ⟨none, none, false, .st 3 (.t 4) (.t 85)⟩,
  ⟨some 5, none, false, .mv (.k (.int .i64 0))⟩] (some [4, 5])
def ir56_30 : IC := .seq ir56_r19 .ret
def ir56_31 : IC := .seq ir56_29 ir56_30
def ir56_32 : IC := .seq ir56_9 ir56_31
def ir56_33 : IC := .seq ir56_r5 ir56_32
def ir56_34 : IC := .seq ir56_7 ir56_33
def ir56_35 : IC := .seq ir56_r0 ir56_34
def ir56 : IC := ir56_35
theorem fn56 : FnIs Tryd.prog 56 ir56 86 [.cell 4 56, .tmp 5] := ⟨Tryd.f56, Tryd.f56.body.getD .skip, Tryd.func56, by kernel_rfl, by kernel_rfl, by kernel_rfl, by kernel_rfl⟩
abbrev s1 (n c : Nat) : Value := .slice (some ⟨1, 0, none⟩) n c
theorem turn_bad (n c : Nat) (W H : Int) (xs : List Int) (q : Int) (hn : xs.length = n) (hb : n ≤ 1000000) (h : mOK W H xs = false) :
    Fc Tryd.prog 56 [mV 1 n c W H, .int .i64 q] (Hp 2 [none, some (.cells ⟨rows eN xs, 0, false⟩)]) (tuV 2 ([], 0, 0, 2)) ((Hp 2 [none, some (.cells ⟨rows eN xs, 0, false⟩)]).news [.cells ⟨rows eN [], 1, true⟩]) := by
  have hE : mE W H xs = 2 := by unfold mE; rw [h]; rfl
  refine Fc.introR fn56 (by simp) rfl rfl ?_; simp only [argF]
  refine ITri.seq ?_
  refine ITri.reg pok ?_; simp -implicitDefEqProofs (disch := first | decide | exact of_eq_true (eq_true rfl) | omega | assumption) only [ ↓vcD, vcE, ↓vcG, vcF, evs, evP, evB, intsOf, fillC, Value.cells, pt, Value.oneCell', reduceIte, reduceCtorEq, Nat.reduceEqDiff, Nat.reduceAdd, Nat.reduceMul, Nat.reduceLT, Nat.reduceBEq, Nat.reduceLeDiff, Nat.reduceSub] -- r0 log.go:271
  refine ITri.seq ?_
  refine ITri.block ?_ -- 0
  refine ITri.seq ?_
  refine ITri.reg pok ?_; simp -implicitDefEqProofs (disch := first | decide | exact of_eq_true (eq_true rfl) | omega | assumption) only [ ↓vcD, vcE, ↓vcG, vcF, evs, evP, evB, intsOf, fillC, Value.cells, pt, Value.oneCell', reduceIte, reduceCtorEq, Nat.reduceEqDiff, Nat.reduceAdd, Nat.reduceMul, Nat.reduceLT, Nat.reduceBEq, Nat.reduceLeDiff, Nat.reduceSub] -- r1 log.go:273 CALLS .call F36 [%14]
  refine ⟨_, _, check_f hn hb (sees0 rfl (of_decide_eq_true rfl)) (get_hq rfl rfl), ?_⟩
  rw [hE]
  simp -implicitDefEqProofs (disch := first | decide | exact of_eq_true (eq_true rfl) | omega | assumption) only [ne_eq, decide_true, not_false_eq_true,  ↓vcD, vcE, ↓vcG, vcF, evs, evP, evB, intsOf, fillC, Value.cells, pt, Value.oneCell', reduceIte, reduceCtorEq, Nat.reduceEqDiff, Nat.reduceAdd, Nat.reduceMul, Nat.reduceLT, Nat.reduceBEq, Nat.reduceLeDiff, Nat.reduceSub]
  refine ITri.cond (v := true) rfl (fun _ => ?_) (fun h => by cases h)
  refine ITri.seq ?_
  refine ITri.reg pok ?_; simp -implicitDefEqProofs (disch := first | decide | exact of_eq_true (eq_true rfl) | omega | assumption) only [ ↓vcD, vcE, ↓vcG, vcF, evs, evP, evB, intsOf, fillC, Value.cells, pt, Value.oneCell', reduceIte, reduceCtorEq, Nat.reduceEqDiff, Nat.reduceAdd, Nat.reduceMul, Nat.reduceLT, Nat.reduceBEq, Nat.reduceLeDiff, Nat.reduceSub] -- r2 log.go:274
  refine ITri.ret ?_
  exact end_nil (mk := fun s => .tuple #[.agg #[.int .i64 0, .int .i64 0, s], .int .i64 2]) (mvT 0 0 2) (resF_agg 3 rfl (by kernel_rfl) (by simp -implicitDefEqProofs (disch := first | decide | exact of_eq_true (eq_true rfl) | omega | assumption) only [↓vcD, vcE, ↓vcG, vcF, evs, evP, evB, intsOf, fillC, Value.cells, pt, Value.oneCell', reduceIte, reduceCtorEq, Nat.reduceEqDiff, Nat.reduceAdd, Nat.reduceMul, Nat.reduceLT, Nat.reduceBEq, Nat.reduceLeDiff, Nat.reduceSub]) (resF_tmp rfl resF_nil)) rfl
theorem turn_rng (n c : Nat) (W H : Int) (xs : List Int) (q : Int) (hn : xs.length = n) (hb : n ≤ 1000000) (h : mOK W H xs = true) (hq : inT q 0 3 = false) :
    Fc Tryd.prog 56 [mV 1 n c W H, .int .i64 q] (Hp 2 [none, some (.cells ⟨rows eN xs, 0, false⟩)]) (tuV 2 ([], 0, 0, 3)) ((Hp 2 [none, some (.cells ⟨rows eN xs, 0, false⟩)]).news [.cells ⟨rows eN [], 1, true⟩]) := by
  have hE : mE W H xs = 0 := by unfold mE; rw [h]; rfl
  refine Fc.introR fn56 (by simp) rfl rfl ?_; simp only [argF]
  refine ITri.seq ?_
  refine ITri.reg pok ?_; simp -implicitDefEqProofs (disch := first | decide | exact of_eq_true (eq_true rfl) | omega | assumption) only [ ↓vcD, vcE, ↓vcG, vcF, evs, evP, evB, intsOf, fillC, Value.cells, pt, Value.oneCell', reduceIte, reduceCtorEq, Nat.reduceEqDiff, Nat.reduceAdd, Nat.reduceMul, Nat.reduceLT, Nat.reduceBEq, Nat.reduceLeDiff, Nat.reduceSub] -- r0 log.go:271
  refine ITri.seq ?_
  refine ITri.block ?_ -- 0
  refine ITri.seq ?_
  refine ITri.reg pok ?_; simp -implicitDefEqProofs (disch := first | decide | exact of_eq_true (eq_true rfl) | omega | assumption) only [ ↓vcD, vcE, ↓vcG, vcF, evs, evP, evB, intsOf, fillC, Value.cells, pt, Value.oneCell', reduceIte, reduceCtorEq, Nat.reduceEqDiff, Nat.reduceAdd, Nat.reduceMul, Nat.reduceLT, Nat.reduceBEq, Nat.reduceLeDiff, Nat.reduceSub] -- r1 log.go:273 CALLS .call F36 [%14]
  refine ⟨_, _, check_f hn hb (sees0 rfl (of_decide_eq_true rfl)) (get_hq rfl rfl), ?_⟩
  rw [hE]
  simp -implicitDefEqProofs (disch := first | decide | exact of_eq_true (eq_true rfl) | omega | assumption) only [ne_eq, decide_false, not_true_eq_false,  ↓vcD, vcE, ↓vcG, vcF, evs, evP, evB, intsOf, fillC, Value.cells, pt, Value.oneCell', reduceIte, reduceCtorEq, Nat.reduceEqDiff, Nat.reduceAdd, Nat.reduceMul, Nat.reduceLT, Nat.reduceBEq, Nat.reduceLeDiff, Nat.reduceSub]
  refine ITri.cond (v := false) rfl (fun h => by cases h) (fun _ => ?_)
  refine ITri.seq ?_
  by_cases g : q < 0
  · refine ITri.reg pok ?_; simp -implicitDefEqProofs (disch := first | decide | exact of_eq_true (eq_true rfl) | omega | assumption) only [g, decide_true,  ↓vcD, vcE, ↓vcG, vcF, evs, evP, evB, intsOf, fillC, Value.cells, pt, Value.oneCell', reduceIte, reduceCtorEq, Nat.reduceEqDiff, Nat.reduceAdd, Nat.reduceMul, Nat.reduceLT, Nat.reduceBEq, Nat.reduceLeDiff, Nat.reduceSub]
    refine ITri.cond (v := true) rfl (fun _ => ?_) (fun h => by cases h)
    refine ITri.seq ?_
    refine ITri.reg pok ?_; simp -implicitDefEqProofs (disch := first | decide | exact of_eq_true (eq_true rfl) | omega | assumption) only [ ↓vcD, vcE, ↓vcG, vcF, evs, evP, evB, intsOf, fillC, Value.cells, pt, Value.oneCell', reduceIte, reduceCtorEq, Nat.reduceEqDiff, Nat.reduceAdd, Nat.reduceMul, Nat.reduceLT, Nat.reduceBEq, Nat.reduceLeDiff, Nat.reduceSub] -- r4 log.go:276
    refine ITri.ret ?_
    exact end_nil (mk := fun s => .tuple #[.agg #[.int .i64 0, .int .i64 0, s], .int .i64 3]) (mvT 0 0 3) (resF_agg 3 rfl (by kernel_rfl) (by simp -implicitDefEqProofs (disch := first | decide | exact of_eq_true (eq_true rfl) | omega | assumption) only [↓vcD, vcE, ↓vcG, vcF, evs, evP, evB, intsOf, fillC, Value.cells, pt, Value.oneCell', reduceIte, reduceCtorEq, Nat.reduceEqDiff, Nat.reduceAdd, Nat.reduceMul, Nat.reduceLT, Nat.reduceBEq, Nat.reduceLeDiff, Nat.reduceSub]) (resF_tmp rfl resF_nil)) rfl
  · have g2 : 3 < q := by rcases inT_no hq with h | h <;> omega
    refine ITri.reg pok ?_; simp -implicitDefEqProofs (disch := first | decide | exact of_eq_true (eq_true rfl) | omega | assumption) only [g, g2, decide_true, decide_false,  ↓vcD, vcE, ↓vcG, vcF, evs, evP, evB, intsOf, fillC, Value.cells, pt, Value.oneCell', reduceIte, reduceCtorEq, Nat.reduceEqDiff, Nat.reduceAdd, Nat.reduceMul, Nat.reduceLT, Nat.reduceBEq, Nat.reduceLeDiff, Nat.reduceSub]
    refine ITri.cond (v := true) rfl (fun _ => ?_) (fun h => by cases h)
    refine ITri.seq ?_
    refine ITri.reg pok ?_; simp -implicitDefEqProofs (disch := first | decide | exact of_eq_true (eq_true rfl) | omega | assumption) only [ ↓vcD, vcE, ↓vcG, vcF, evs, evP, evB, intsOf, fillC, Value.cells, pt, Value.oneCell', reduceIte, reduceCtorEq, Nat.reduceEqDiff, Nat.reduceAdd, Nat.reduceMul, Nat.reduceLT, Nat.reduceBEq, Nat.reduceLeDiff, Nat.reduceSub] -- r4 log.go:276
    refine ITri.ret ?_
    exact end_nil (mk := fun s => .tuple #[.agg #[.int .i64 0, .int .i64 0, s], .int .i64 3]) (mvT 0 0 3) (resF_agg 3 rfl (by kernel_rfl) (by simp -implicitDefEqProofs (disch := first | decide | exact of_eq_true (eq_true rfl) | omega | assumption) only [↓vcD, vcE, ↓vcG, vcF, evs, evP, evB, intsOf, fillC, Value.cells, pt, Value.oneCell', reduceIte, reduceCtorEq, Nat.reduceEqDiff, Nat.reduceAdd, Nat.reduceMul, Nat.reduceLT, Nat.reduceBEq, Nat.reduceLeDiff, Nat.reduceSub]) (resF_tmp rfl resF_nil)) rfl
theorem rows_rep (n : Nat) : (List.replicate n [Value.int .i64 0]).flatten = rows eN (List.replicate n 0) := by
  induction n with
  | zero => rfl
  | succ n ih => rw [List.replicate_succ, List.flatten_cons, ih, List.replicate_succ, rows_cons]
theorem turn_ok (c W H q : Nat) (xs : List Int) (hm : mOK W H xs = true) (hW : 1 ≤ W) (hW2 : W ≤ 60) (hH : 1 ≤ H) (hH2 : H ≤ 60) (n : Nat) (hn : xs.length = n) (hWH : n = W * H) (hb : n ≤ 3600) (hq : q ≤ 3) :
    Fc Tryd.prog 56 [mV 1 n c W H, .int .i64 q] (Hp 2 [none, some (.cells ⟨rows eN xs, 0, false⟩)]) (.tuple #[mV 2 n openB (wOf W H q : Nat) (wOf H W q : Nat), .int .i64 0]) ((Hp 2 [none, some (.cells ⟨rows eN xs, 0, false⟩)]).news [.cells ⟨rows eN (trnF W H q xs), 1, true⟩]) := by
  have hE : mE W H xs = 0 := by unfold mE; rw [hm]; rfl
  refine Fc.introR fn56 (by simp) rfl rfl ?_; simp only [argF]
  refine ITri.seq ?_
  refine ITri.reg pok ?_; simp -implicitDefEqProofs (disch := first | decide | exact of_eq_true (eq_true rfl) | omega | assumption) only [ ↓vcD, vcE, ↓vcG, vcF, evs, evP, evB, intsOf, fillC, Value.cells, pt, Value.oneCell', reduceIte, reduceCtorEq, Nat.reduceEqDiff, Nat.reduceAdd, Nat.reduceMul, Nat.reduceLT, Nat.reduceBEq, Nat.reduceLeDiff, Nat.reduceSub] -- r0 log.go:271
  refine ITri.seq ?_
  refine ITri.block ?_ -- 0
  refine ITri.seq ?_
  refine ITri.reg pok ?_; simp -implicitDefEqProofs (disch := first | decide | exact of_eq_true (eq_true rfl) | omega | assumption) only [ ↓vcD, vcE, ↓vcG, vcF, evs, evP, evB, intsOf, fillC, Value.cells, pt, Value.oneCell', reduceIte, reduceCtorEq, Nat.reduceEqDiff, Nat.reduceAdd, Nat.reduceMul, Nat.reduceLT, Nat.reduceBEq, Nat.reduceLeDiff, Nat.reduceSub] -- r1 log.go:273 CALLS .call F36 [%14]
  refine ⟨_, _, check_f hn (by omega) (sees0 rfl (of_decide_eq_true rfl)) (get_hq rfl rfl), ?_⟩
  rw [hE]
  simp -implicitDefEqProofs (disch := first | decide | exact of_eq_true (eq_true rfl) | omega | assumption) only [ne_eq, decide_false, not_true_eq_false,  ↓vcD, vcE, ↓vcG, vcF, evs, evP, evB, intsOf, fillC, Value.cells, pt, Value.oneCell', reduceIte, reduceCtorEq, Nat.reduceEqDiff, Nat.reduceAdd, Nat.reduceMul, Nat.reduceLT, Nat.reduceBEq, Nat.reduceLeDiff, Nat.reduceSub]
  refine ITri.cond (v := false) rfl (fun h => by cases h) (fun _ => ?_)
  refine ITri.seq ?_
  have g1 : ¬ ((q : Int) < 0) := by omega
  have g2 : ¬ (3 < (q : Int)) := by omega
  refine ITri.reg pok ?_; simp -implicitDefEqProofs (disch := first | decide | exact of_eq_true (eq_true rfl) | omega | assumption) only [g1, g2, decide_false,  ↓vcD, vcE, ↓vcG, vcF, evs, evP, evB, intsOf, fillC, Value.cells, pt, Value.oneCell', reduceIte, reduceCtorEq, Nat.reduceEqDiff, Nat.reduceAdd, Nat.reduceMul, Nat.reduceLT, Nat.reduceBEq, Nat.reduceLeDiff, Nat.reduceSub] -- r3 log.go:275
  refine ITri.cond (v := false) rfl (fun h => by cases h) (fun _ => ?_); refine ITri.skip ?_; simp only [SeqQ_normal, BlkQ_normal]
  refine ITri.seq ?_
  refine ITri.draw pok ?_; simp -implicitDefEqProofs (disch := first | decide | exact of_eq_true (eq_true rfl) | omega | assumption) only [rows_rep,  ↓vcD, vcE, ↓vcG, vcF, evs, evP, evB, intsOf, fillC, Value.cells, pt, Value.oneCell', reduceIte, reduceCtorEq, Nat.reduceEqDiff, Nat.reduceAdd, Nat.reduceMul, Nat.reduceLT, Nat.reduceBEq, Nat.reduceLeDiff, Nat.reduceSub] -- r5 log.go:278
  refine ITri.seq ?_
  refine ITri.seq ?_
  refine ITri.reg pok ?_; simp -implicitDefEqProofs (disch := first | decide | exact of_eq_true (eq_true rfl) | omega | assumption) only [ ↓vcD, vcE, ↓vcG, vcF, evs, evP, evB, intsOf, fillC, Value.cells, pt, Value.oneCell', reduceIte, reduceCtorEq, Nat.reduceEqDiff, Nat.reduceAdd, Nat.reduceMul, Nat.reduceLT, Nat.reduceBEq, Nat.reduceLeDiff, Nat.reduceSub] -- r6 log.go:279
  have z0 : rows eN (List.replicate n 0) = rows eN (outF W H q xs 0) := by rw [hWH]; rfl
  rw [z0]
  refine ITri.cut (fun _ : Unit => [(1, .int .i64 q), (2, .pointer (some ⟨2, 0, none⟩)), (4, .pointer (some ⟨3, 0, none⟩)), (6, .pointer (some ⟨5, 0, none⟩))]) (fun _ => []) (fun _ => Hp 2 [none, some (.cells ⟨rows eN xs, 0, false⟩), some (.cells ⟨[.int .i64 W, .int .i64 H, s1 n c], 1, false⟩), some (.cells ⟨[.int .i64 0, .int .i64 0, .slice none 0 0], 1, false⟩), some (.cells ⟨rows eN (outF W H q xs 0), 1, false⟩), some (.cells ⟨[.int .i64 (wOf W H q : Nat), .int .i64 (wOf H W q : Nat), .slice (some ⟨4, 0, none⟩) n n], 1, false⟩)]) (fun _ => True) ?_ (fun _ _ => ?_)
  · refine ITri.condD (by rfl) (fun h3 => ?_) (fun h3 => ?_) -- %37
    · have e1 : wOf W H q = H := if_pos (by omega)
      have e2 : wOf H W q = W := if_pos (by omega)
      rw [e1, e2]
      refine ITri.drawF [2] pok ?_; simp -implicitDefEqProofs (disch := first | decide | exact of_eq_true (eq_true rfl) | omega | assumption) only [  ↓vcD, vcE, ↓vcG, vcF, evs, evP, evB, intsOf, fillC, Value.cells, pt, Value.oneCell', reduceIte, reduceCtorEq, Nat.reduceEqDiff, Nat.reduceAdd, Nat.reduceMul, Nat.reduceLT, Nat.reduceBEq, Nat.reduceLeDiff, Nat.reduceSub]
      refine CutQ.mk () trivial (Wk.sub ⟨rfl, rfl, rfl, rfl, trivial⟩)
    have e1 : wOf W H q = W := if_neg (by omega)
    have e2 : wOf H W q = H := if_neg (by omega)
    rw [e1, e2]
    refine ITri.skip ?_
    refine CutQ.mk () trivial (Wk.sub ⟨rfl, rfl, rfl, rfl, trivial⟩)
  refine ITri.seq ?_
  refine ITri.seq ?_
  refine ITri.reg pok ?_; simp -implicitDefEqProofs (disch := first | decide | exact of_eq_true (eq_true rfl) | omega | assumption) only [ ↓vcD, vcE, ↓vcG, vcF, evs, evP, evB, intsOf, fillC, Value.cells, pt, Value.oneCell', reduceIte, reduceCtorEq, Nat.reduceEqDiff, Nat.reduceAdd, Nat.reduceMul, Nat.reduceLT, Nat.reduceBEq, Nat.reduceLeDiff, Nat.reduceSub] -- r8 log.go:282
  refine ITri.block ?_ -- 1
  refine ITri.loop (fun k : Nat => [(1, .int .i64 q), (2, .pointer (some ⟨2, 0, none⟩)), (4, .pointer (some ⟨3, 0, none⟩)), (6, .pointer (some ⟨5, 0, none⟩)), (45, s1 n c), (46, .int .i64 n), (47, .int .i64 k)]) (fun _ => []) (fun k => Hp 2 [none, some (.cells ⟨rows eN xs, 0, false⟩), some (.cells ⟨[.int .i64 W, .int .i64 H, s1 n c], 1, false⟩), some (.cells ⟨[.int .i64 0, .int .i64 0, .slice none 0 0], 1, false⟩), some (.cells ⟨rows eN (outF W H q xs k), 1, false⟩), some (.cells ⟨[.int .i64 (wOf W H q : Nat), .int .i64 (wOf H W q : Nat), .slice (some ⟨4, 0, none⟩) n n], 1, false⟩)]) (fun k => k ≤ n) (fun k => n - k) 0 (by omega) (Wk.sub ⟨rfl, rfl, rfl, rfl, rfl, rfl, rfl, trivial⟩) fun k hk => ?_
  refine ITri.seq ?_
  refine ITri.reg pok ?_; simp -implicitDefEqProofs (disch := first | decide | exact of_eq_true (eq_true rfl) | omega | assumption) only [ ↓vcD, vcE, ↓vcG, vcF, evs, evP, evB, intsOf, fillC, Value.cells, pt, Value.oneCell', reduceIte, reduceCtorEq, Nat.reduceEqDiff, Nat.reduceAdd, Nat.reduceMul, Nat.reduceLT, Nat.reduceBEq, Nat.reduceLeDiff, Nat.reduceSub] -- r9 log.go:282
  refine ITri.seq ?_
  refine ITri.condD (by rfl) (fun h5 => ?_) (fun h5 => ?_) -- %48
  · have hkx : k < xs.length := by omega
    have gk := getN hkx
    have e1 : ((k : Int) % (W : Int)) = ((k % W : Nat) : Int) := by simp
    have e2 : ((k : Int) / (W : Int)) = ((k / W : Nat) : Int) := by simp
    have b1 : k % W < W := Nat.mod_lt _ (by omega)
    have b2 := Nat.div_le_self k W
    have hok : (⟨k % W, k / W, W, H⟩ : Pl).ok := pl_ok (by omega)
    have hdk : dst W H q k = (itP q ⟨k % W, k / W, W, H⟩).at := rfl
    generalize k % W = km at *
    generalize k / W = kq at *
    refine ITri.skip ?_; simp only [SeqQ_normal, BlkQ_normal]
    refine ITri.seq ?_
    refine ITri.block ?_ -- 2
    refine ITri.seq ?_
    refine ITri.reg pok ?_; simp -implicitDefEqProofs (disch := first | decide | exact of_eq_true (eq_true rfl) | omega | assumption) only [gk,  ↓vcD, vcE, ↓vcG, vcF, evs, evP, evB, intsOf, fillC, Value.cells, pt, Value.oneCell', reduceIte, reduceCtorEq, Nat.reduceEqDiff, Nat.reduceAdd, Nat.reduceMul, Nat.reduceLT, Nat.reduceBEq, Nat.reduceLeDiff, Nat.reduceSub] -- r10 log.go:282
    refine ITri.seq ?_
    refine ITri.draw pok ?_; simp -implicitDefEqProofs (disch := first | decide | exact of_eq_true (eq_true rfl) | omega | assumption) only [e1, e2,  ↓vcD, vcE, ↓vcG, vcF, evs, evP, evB, intsOf, fillC, Value.cells, pt, Value.oneCell', reduceIte, reduceCtorEq, Nat.reduceEqDiff, Nat.reduceAdd, Nat.reduceMul, Nat.reduceLT, Nat.reduceBEq, Nat.reduceLeDiff, Nat.reduceSub] -- r11 log.go:283
    refine ITri.seq ?_
    refine ITri.draw pok ?_; simp -implicitDefEqProofs (disch := first | decide | exact of_eq_true (eq_true rfl) | omega | assumption) only [ ↓vcD, vcE, ↓vcG, vcF, evs, evP, evB, intsOf, fillC, Value.cells, pt, Value.oneCell', reduceIte, reduceCtorEq, Nat.reduceEqDiff, Nat.reduceAdd, Nat.reduceMul, Nat.reduceLT, Nat.reduceBEq, Nat.reduceLeDiff, Nat.reduceSub] -- r12 log.go:284
    refine ITri.seq ?_
    refine ITri.seq ?_
    refine ITri.reg pok ?_; simp -implicitDefEqProofs (disch := first | decide | exact of_eq_true (eq_true rfl) | omega | assumption) only [ ↓vcD, vcE, ↓vcG, vcF, evs, evP, evB, intsOf, fillC, Value.cells, pt, Value.oneCell', reduceIte, reduceCtorEq, Nat.reduceEqDiff, Nat.reduceAdd, Nat.reduceMul, Nat.reduceLT, Nat.reduceBEq, Nat.reduceLeDiff, Nat.reduceSub] -- r13 log.go:285
    refine ITri.block ?_ -- 3
    refine ITri.loop (fun r : Nat => [(1, .int .i64 q), (2, .pointer (some ⟨2, 0, none⟩)), (4, .pointer (some ⟨3, 0, none⟩)), (6, .pointer (some ⟨5, 0, none⟩)), (8, .int .i64 (nth xs k)), (9, .int .i64 (itP r ⟨km, kq, W, H⟩).x), (10, .int .i64 (itP r ⟨km, kq, W, H⟩).y), (11, .int .i64 (itP r ⟨km, kq, W, H⟩).w), (12, .int .i64 (itP r ⟨km, kq, W, H⟩).h), (45, s1 n c), (46, .int .i64 n), (47, .int .i64 k), (64, .int .i64 q), (65, .int .i64 r)]) (fun _ => []) (fun r => Hp 2 [none, some (.cells ⟨rows eN xs, 0, false⟩), some (.cells ⟨[.int .i64 W, .int .i64 H, s1 n c], 1, false⟩), some (.cells ⟨[.int .i64 0, .int .i64 0, .slice none 0 0], 1, false⟩), some (.cells ⟨rows eN (outF W H q xs k), 1, false⟩), some (.cells ⟨[.int .i64 (wOf W H q : Nat), .int .i64 (wOf H W q : Nat), .slice (some ⟨4, 0, none⟩) n n], 1, false⟩)]) (fun r => r ≤ q) (fun r => q - r) 0 (by omega) (Wk.sub ⟨rfl, rfl, rfl, rfl, rfl, rfl, rfl, rfl, rfl, rfl, rfl, rfl, rfl, rfl, trivial⟩) fun r hr => ?_
    have hokr := it_ok hok r
    have hwh := it_wh r ⟨km, kq, W, H⟩
    have hnx : itP (r + 1) ⟨km, kq, W, H⟩ = (itP r ⟨km, kq, W, H⟩).st := rfl
    have hat : r = q → (itP r ⟨km, kq, W, H⟩).y * (itP r ⟨km, kq, W, H⟩).w + (itP r ⟨km, kq, W, H⟩).x = dst W H q k := fun e => by rw [e, hdk]; rfl
    have hpw : (itP r ⟨km, kq, W, H⟩).w ≤ 60 ∧ (itP r ⟨km, kq, W, H⟩).h ≤ 60 := by
      rw [hwh.1, hwh.2]
      show (if r % 2 = 1 then H else W) ≤ 60 ∧ (if r % 2 = 1 then W else H) ≤ 60
      split <;> omega
    clear hwh
    refine ITri.seq ?_
    refine ITri.reg pok ?_; simp -implicitDefEqProofs (disch := first | decide | exact of_eq_true (eq_true rfl) | omega | assumption) only [ ↓vcD, vcE, ↓vcG, vcF, evs, evP, evB, intsOf, fillC, Value.cells, pt, Value.oneCell', reduceIte, reduceCtorEq, Nat.reduceEqDiff, Nat.reduceAdd, Nat.reduceMul, Nat.reduceLT, Nat.reduceBEq, Nat.reduceLeDiff, Nat.reduceSub] -- r14 log.go:285
    refine ITri.seq ?_
    refine ITri.condD (by rfl) (fun h7 => ?_) (fun h7 => ?_) -- %66
    · clear hat
      have hr2 : r + 1 ≤ q := by omega
      generalize hp : itP r ⟨km, kq, W, H⟩ = p at *
      obtain ⟨p1, p2⟩ := hokr
      have hs : ((p.h : Int) - 1 - (p.y : Int)) = ((p.h - 1 - p.y : Nat) : Int) := by omega
      refine ITri.skip ?_; simp only [SeqQ_normal, BlkQ_normal]
      refine ITri.seq ?_
      refine ITri.block ?_ -- 4
      refine ITri.reg pok ?_; simp -implicitDefEqProofs (disch := first | decide | exact of_eq_true (eq_true rfl) | omega | assumption) only [hs,  ↓vcD, vcE, ↓vcG, vcF, evs, evP, evB, intsOf, fillC, Value.cells, pt, Value.oneCell', reduceIte, reduceCtorEq, Nat.reduceEqDiff, Nat.reduceAdd, Nat.reduceMul, Nat.reduceLT, Nat.reduceBEq, Nat.reduceLeDiff, Nat.reduceSub] -- r15 log.go:286
      refine ITri.reg pok ?_; simp -implicitDefEqProofs (disch := first | decide | exact of_eq_true (eq_true rfl) | omega | assumption) only [ ↓vcD, vcE, ↓vcG, vcF, evs, evP, evB, intsOf, fillC, Value.cells, pt, Value.oneCell', reduceIte, reduceCtorEq, Nat.reduceEqDiff, Nat.reduceAdd, Nat.reduceMul, Nat.reduceLT, Nat.reduceBEq, Nat.reduceLeDiff, Nat.reduceSub] -- r16 log.go:285
      refine LoopQ.next (r + 1) hr2 (by omega) ?_
      simp only [hnx, Pl.st]
      exact (Wk.sub ⟨rfl, rfl, rfl, rfl, rfl, rfl, rfl, rfl, rfl, rfl, rfl, rfl, rfl, rfl, trivial⟩)
    refine ITri.exit ?_; try simp -implicitDefEqProofs (disch := first | decide | exact of_eq_true (eq_true rfl) | omega | assumption) only [ ↓vcD, vcE, ↓vcG, vcF, evs, evP, evB, intsOf, fillC, Value.cells, pt, Value.oneCell', reduceIte, reduceCtorEq, Nat.reduceEqDiff, Nat.reduceAdd, Nat.reduceMul, Nat.reduceLT, Nat.reduceBEq, Nat.reduceLeDiff, Nat.reduceSub]
    obtain rfl : q = r := by omega
    have hat := hat rfl
    have hd := dst_lt (W := W) (H := H) (q := q) (i := k) (by omega)
    have hl : (outF W H q xs k).length = n := by rw [outF_len, hWH]
    have hw : writeAt (rows eN (outF W H q xs k)) (dst W H q k) [Value.int .i64 (nth xs k)] = rows eN (outF W H q xs (k + 1)) := by
      have := rows_write (f := eN) (c := 1) (xs := outF W H q xs k) (i := dst W H q k) (nth xs k) (by omega)
      rwa [Nat.mul_one] at this
    clear hnx
    generalize itP q ⟨km, kq, W, H⟩ = p at *
    obtain ⟨p1, p2⟩ := hokr
    obtain ⟨p3, p4⟩ := hpw
    have e3 : ((p.y : Int) * (p.w : Int)) = ((p.y * p.w : Nat) : Int) := by simp
    have e4 : ((p.y * p.w : Nat) : Int) + (p.x : Int) = (dst W H q k : Int) := by omega
    generalize p.y * p.w = yw at *
    generalize dst W H q k = dd at *
    refine ITri.reg pok ?_; simp -implicitDefEqProofs (disch := first | decide | exact of_eq_true (eq_true rfl) | omega | assumption) only [e3, e4, hl, hw,  ↓vcD, vcE, ↓vcG, vcF, evs, evP, evB, intsOf, fillC, Value.cells, pt, Value.oneCell', reduceIte, reduceCtorEq, Nat.reduceEqDiff, Nat.reduceAdd, Nat.reduceMul, Nat.reduceLT, Nat.reduceBEq, Nat.reduceLeDiff, Nat.reduceSub] -- r17 log.go:288
    refine ITri.reg pok ?_; simp -implicitDefEqProofs (disch := first | decide | exact of_eq_true (eq_true rfl) | omega | assumption) only [ ↓vcD, vcE, ↓vcG, vcF, evs, evP, evB, intsOf, fillC, Value.cells, pt, Value.oneCell', reduceIte, reduceCtorEq, Nat.reduceEqDiff, Nat.reduceAdd, Nat.reduceMul, Nat.reduceLT, Nat.reduceBEq, Nat.reduceLeDiff, Nat.reduceSub] -- r18 log.go:282
    exact LoopQ.next (k + 1) (by omega) (by omega) (Wk.sub ⟨rfl, rfl, rfl, rfl, rfl, rfl, rfl, trivial⟩)
  refine ITri.exit ?_; try simp -implicitDefEqProofs (disch := first | decide | exact of_eq_true (eq_true rfl) | omega | assumption) only [ ↓vcD, vcE, ↓vcG, vcF, evs, evP, evB, intsOf, fillC, Value.cells, pt, Value.oneCell', reduceIte, reduceCtorEq, Nat.reduceEqDiff, Nat.reduceAdd, Nat.reduceMul, Nat.reduceLT, Nat.reduceBEq, Nat.reduceLeDiff, Nat.reduceSub]
  obtain rfl : n = k := by omega
  refine ITri.seq ?_
  refine ITri.reg pok ?_; simp -implicitDefEqProofs (disch := first | decide | exact of_eq_true (eq_true rfl) | omega | assumption) only [ ↓vcD, vcE, ↓vcG, vcF, evs, evP, evB, intsOf, fillC, Value.cells, pt, Value.oneCell', reduceIte, reduceCtorEq, Nat.reduceEqDiff, Nat.reduceAdd, Nat.reduceMul, Nat.reduceLT, Nat.reduceBEq, Nat.reduceLeDiff, Nat.reduceSub] -- r19 log.go:290
  refine ITri.ret ?_
  have ht : outF W H q xs n = trnF W H q xs := by rw [hWH]; rfl
  rw [← ht]
  exact end_room (k := 4) (cs := rows eN (outF W H q xs n)) (op := false) (n := n) (mk := fun s => .tuple #[.agg #[.int .i64 (wOf W H q : Nat), .int .i64 (wOf H W q : Nat), s], .int .i64 0]) n (mvT _ _ _) (by decide) (by omega) (Nat.le_refl _) (rows_no (f := eN) _) rfl (by decide) (by rw [rows_len, outF_len, hWH]; exact Nat.le_refl _) (resF_agg 3 rfl (by kernel_rfl) (by simp -implicitDefEqProofs (disch := first | decide | exact of_eq_true (eq_true rfl) | omega | assumption) only [↓vcD, vcE, ↓vcG, vcF, evs, evP, evB, intsOf, fillC, Value.cells, pt, Value.oneCell', reduceIte, reduceCtorEq, Nat.reduceEqDiff, Nat.reduceAdd, Nat.reduceMul, Nat.reduceLT, Nat.reduceBEq, Nat.reduceLeDiff, Nat.reduceSub]) (resF_tmp rfl resF_nil)) rfl
end Go.Proofs.YtgjokhodccacoaaDoor
