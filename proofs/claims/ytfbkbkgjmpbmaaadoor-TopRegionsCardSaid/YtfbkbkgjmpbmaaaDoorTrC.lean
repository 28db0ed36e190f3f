/-
  Chapter 10 at the top: what a wafer lacks, by names.
-/
import Derived.Test.YtfbkbkgjmpbmaaaDoorTrB
set_option linter.unusedSimpArgs false
set_option linter.unusedVariables false
namespace Go.Vm
open Go Go.RowKit
/-- An element of an array. -/
theorem gen_idx {P : Program} {w : Bool} {t : TypeId} {s d : Nat} {l : Fr} {h : AH} {K : Value → AH → Prop} {x i v : Value} (h1 : lk l s = some x) (h2 : lk l d = some i) (he : aIndex P t x i = some v) (q : K v h) : iStep P w (.gen (.index t (.tmp s) (.tmp d))) l h K := by
  refine ⟨_, _, ?_, q⟩
  have e1 : aEnv (trOf l) (.tmp s) = some x := by simp only [aEnv, trOf_get, h1]
  have e2 : aEnv (trOf l) (.tmp d) = some i := by simp only [aEnv, trOf_get, h2]
  simp only [aOp, e1, e2, he]
end Go.Vm
namespace Go.Proofs.YtfbkbkgjmpbmaaaDoor
open Go.RowKit Go.Vm
set_option maxRecDepth 1000000
theorem six {p : Nat → Prop} (h0 : p 0) (h1 : p 1) (h2 : p 2) (h3 : p 3) (h4 : p 4) (h5 : p 5) : ∀ i, i < 6 → p i
  | 0, _ => h0
  | 1, _ => h1
  | 2, _ => h2
  | 3, _ => h3
  | 4, _ => h4
  | 5, _ => h5
  | n + 6, h => absurd h (by omega)
theorem idx_zer : ∀ i, i < 6 → aIndex Tryd.prog 37 (.agg ⟨zerL⟩) (.int .i64 (i : Nat)) = some (.agg ⟨[.int .i64 0, .int .i64 0]⟩) := six (by kernel_rfl) (by kernel_rfl) (by kernel_rfl) (by kernel_rfl) (by kernel_rfl) (by kernel_rfl)
theorem sp_lo {a : Nat} : ∀ i, i < 6 → (specL a)[i * 2]? = some (.int .i64 (-1000000000000000)) := six rfl rfl rfl rfl rfl rfl
theorem sp_hi {a : Nat} : ∀ i, i < 6 → (specL a)[i * 2 + 1]? = some (.int .i64 1000000000000000) := six rfl rfl rfl rfl rfl rfl
theorem t_an : ((List.range 32).all fun s => (List.range 32).all fun a => decide (btI .andNot .u8 (s : Int) (a : Int) = 0 ↔ s &&& a = s)) = true := by kernel_rfl
theorem t_ad : ((List.range 32).all fun s => (List.range 32).all fun a => decide (btI .and .u8 (s : Int) (a : Int) = 0 ↔ s &&& a = 0)) = true := by kernel_rfl
theorem an_eq {s a : Nat} (hs : s < 32) (ha : a < 32) : btI .andNot .u8 (s : Int) (a : Int) = 0 ↔ s &&& a = s := of_decide_eq_true (List.all_eq_true.1 (List.all_eq_true.1 t_an s (List.mem_range.2 hs)) a (List.mem_range.2 ha))
theorem ad_eq {s a : Nat} (hs : s < 32) (ha : a < 32) : btI .and .u8 (s : Int) (a : Int) = 0 ↔ s &&& a = 0 := of_decide_eq_true (List.all_eq_true.1 (List.all_eq_true.1 t_ad s (List.mem_range.2 hs)) a (List.mem_range.2 ha))
abbrev speB (a : Nat) : Option AObj := some (.cells ⟨specL a, 1, false⟩)
structure FS where
  i : Nat
  M : List (Option AObj)
def FI (a s : Nat) (x : FS) : Prop := x.i ≤ 6 ∧ x.M[1]? = some (speB a) ∧ x.M[2]? = some (wafB s)
/- boule/order.fault · slots 39 · names 0:s 1:w 2:s 3:w 5:i 6:r · results [4] -/
def ir17_r0 : IC := .reg [⟨some 2, none, false, .box (.t 0)⟩,
  ⟨some 3, none, false, .box (.t 1)⟩,
  ⟨some 4, none, false, .mv (.k (.int .i64 0))⟩] (some [2, 3])
def ir17_r1 : IC := .reg [⟨some 7, none, false, .fad 0 (.t 3)⟩,
  ⟨some 8, none, false, .lda 12 (.t 7)⟩,
  ⟨some 9, none, false, .mv (.k (.int .i64 0))⟩] (some [2, 3, 8, 9])
def ir17_r2 : IC := .reg [⟨some 10, none, false, .cmp .lss (.t 9) (.k (.int .i64 6))⟩] (some [2, 3, 8, 9, 10])
def ir17_1 : IC := .cond (.t 10) .skip (.exit 0)
def ir17_r3 : IC := .reg [⟨some 11, none, false, .mv (.t 9)⟩,
  ⟨some 12, none, false, .gen (.index 37 (.tmp 8) (.tmp 9))⟩,
  ⟨some 6, none, false, .alloc [(.int .i64 0), (.int .i64 0)]⟩,
  ⟨some 5, none, false, .mv (.t 11)⟩,
  ⟨none, none, false, .st 2 (.t 6) (.t 12)⟩] (some [2, 3, 5, 6, 8, 9])
def ir17_r4 : IC := .draw [(⟨some 13, none, false, .fad 0 (.t 6)⟩, false, 0, 0),
  (⟨some 14, none, false, .ldc (.t 13)⟩, false, 1, 1),
  (⟨some 15, none, false, .mv (.t 5)⟩, false, 0, 0),
  (⟨some 16, none, false, .fad 0 (.t 2)⟩, false, 0, 0),
  (⟨some 17, none, false, .iada 6 2 (.t 16) (.t 15)⟩, false, 12, 0),
  (⟨some 18, none, false, .fad 0 (.t 17)⟩, false, 28, 0),
  (⟨some 19, none, false, .ldc (.t 18)⟩, false, 60, 2),
  (⟨some 20, none, false, .cmp .lss (.t 14) (.t 19)⟩, false, 127, 0),
  (⟨some 21, none, false, .mv (.t 20)⟩, false, 255, 0),
  (⟨some 22, some (21, false), false, .fad 1 (.t 6)⟩, false, 511, 0),
  (⟨some 23, some (21, false), false, .ldc (.t 22)⟩, false, 1023, 1),
  (⟨some 24, some (21, false), false, .mv (.t 5)⟩, false, 511, 0),
  (⟨some 25, some (21, false), false, .fad 0 (.t 2)⟩, false, 511, 0),
  (⟨some 26, some (21, false), false, .iada 6 2 (.t 25) (.t 24)⟩, false, 6655, 0),
  (⟨some 27, some (21, false), false, .fad 1 (.t 26)⟩, false, 14847, 0),
  (⟨some 28, some (21, false), false, .ldc (.t 27)⟩, false, 31231, 1024),
  (⟨some 29, some (21, false), false, .cmp .gtr (.t 23) (.t 28)⟩, false, 65535, 0),
  (⟨some 30, none, false, .pick (.t 21) (.k (.bool true)) (.t 29)⟩, false, 131071, 0)] (some [2, 3, 5, 8, 9, 30])
def ir17_r5 : IC := .reg [⟨some 31, none, false, .mv (.t 5)⟩,
  ⟨some 4, none, false, .mv (.t 31)⟩] (some [4])
def ir17_2 : IC := .seq ir17_r5 .ret
def ir17_3 : IC := .cond (.t 30) ir17_2 .skip
def ir17_4 : IC := .seq ir17_r4 ir17_3
def ir17_5 : IC := .seq ir17_r3 ir17_4
def ir17_6 : IC := .block 1 ir17_5
def ir17_r6 : IC := .reg [⟨some 32, none, false, .ar .add (.t 9) (.k (.int .i64 1))⟩,
  ⟨some 9, none, false, .mv (.t 32)⟩] (some [2, 3, 8, 9])
def ir17_7 : IC := .seq ir17_6 ir17_r6
def ir17_8 : IC := .seq ir17_1 ir17_7
def ir17_9 : IC := .seq ir17_r2 ir17_8
def ir17_10 : IC := .loop ir17_9
def ir17_11 : IC := .block 0 ir17_10
def ir17_12 : IC := .seq ir17_r1 ir17_11
def ir17_r7 : IC := .reg [⟨some 33, none, false, .fad 12 (.t 3)⟩,
  ⟨some 34, none, false, .ldc (.t 33)⟩,
  ⟨some 35, none, false, .fad 12 (.t 2)⟩,
  ⟨some 36, none, false, .ldc (.t 35)⟩,
  ⟨some 37, none, false, .bits .andNot (.t 34) (.t 36)⟩,
  ⟨some 38, none, false, .cmp .neq (.t 37) (.k (.int .u8 0))⟩] (some [38])
def ir17_r8 : IC := .reg [⟨some 4, none, false, .mv (.k (.int .i64 6))⟩] (some [4])
def ir17_13 : IC := .seq ir17_r8 .ret
def ir17_14 : IC := .cond (.t 38) ir17_13 .skip
def ir17_15 : IC := .seq ir17_r7 ir17_14
def ir17_r9 : IC := .reg [⟨some 4, none, false, .mv (.k (.int .i64 (-1)))⟩] (some [4])
def ir17_16 : IC := .seq ir17_r9 .ret
def ir17_17 : IC := .seq ir17_15 ir17_16
def ir17_18 : IC := .seq ir17_12 ir17_17
def ir17_19 : IC := .seq ir17_r0 ir17_18
def ir17 : IC := ir17_19
theorem fn17 : FnIs Tryd.prog 17 ir17 39 [.tmp 4] := ⟨Tryd.f17, Tryd.f17.body.getD .skip, Tryd.func17, by kernel_rfl, by kernel_rfl, by kernel_rfl, by kernel_rfl⟩
theorem fault_c {a s : Nat} (ha : a < 32) (hs : s < 32) : Fc Tryd.prog 17 [.agg ⟨specL a⟩, .agg ⟨wafL s⟩] (Hp 1 [none]) (.int .i64 (if s &&& a = s then -1 else 6)) (Hp 1 [none]) := by
  refine Fc.intro0 fn17 (by simp) rfl rfl ?_; simp only [argF]
  have hT : takeC (wafL s) 0 12 = some zerL := rfl
  refine ITri.seq ?_
  refine ITri.reg pok ?_; simp -implicitDefEqProofs (disch := first | decide | exact of_eq_true (eq_true rfl) | omega | assumption) only [ ↓vcD, vcE, ↓vcG, vcF, evs, evP, evB, intsOf, fillC, Value.cells, pt, Value.oneCell', reduceIte, reduceCtorEq, Nat.reduceEqDiff, Nat.reduceAdd, Nat.reduceMul, Nat.reduceLT, Nat.reduceBEq, Nat.reduceLeDiff, Nat.reduceSub] -- r0
  refine ITri.seq ?_
  refine ITri.seq ?_
  refine ITri.reg pok ?_; simp -implicitDefEqProofs (disch := first | decide | exact of_eq_true (eq_true rfl) | omega | assumption) only [hT,  ↓vcD, vcE, ↓vcG, vcF, evs, evP, evB, intsOf, fillC, Value.cells, pt, Value.oneCell', reduceIte, reduceCtorEq, Nat.reduceEqDiff, Nat.reduceAdd, Nat.reduceMul, Nat.reduceLT, Nat.reduceBEq, Nat.reduceLeDiff, Nat.reduceSub] -- r1
  refine ITri.block ?_ -- 0
  refine ITri.loop (fun x : FS => [(2, pt 1), (3, pt 2), (8, .agg ⟨zerL⟩), (9, .int .i64 x.i)]) (fun _ => []) (fun x => Hp 1 x.M) (FI a s) (fun x => 6 - x.i) ⟨0, [none, speB a, wafB s]⟩ ⟨Nat.zero_le _, rfl, rfl⟩ (Wk.sub ⟨rfl, rfl, rfl, rfl, trivial⟩) fun x hx => ?_
  obtain ⟨i, M⟩ := x
  obtain ⟨h1, h2, h3⟩ := hx
  simp only at h1 h2 h3
  refine ITri.seq ?_
  refine ITri.reg pok ?_; simp -implicitDefEqProofs (disch := first | decide | exact of_eq_true (eq_true rfl) | omega | assumption) only [ ↓vcD, vcE, ↓vcG, vcF, evs, evP, evB, intsOf, fillC, Value.cells, pt, Value.oneCell', reduceIte, reduceCtorEq, Nat.reduceEqDiff, Nat.reduceAdd, Nat.reduceMul, Nat.reduceLT, Nat.reduceBEq, Nat.reduceLeDiff, Nat.reduceSub] -- r2
  refine ITri.seq ?_
  refine ITri.condD (by rfl) (fun hi => ?_) (fun hi => ?_) -- %10
  · have hi6 : i < 6 := by omega
    have e1 := sp_lo (a := a) i hi6
    have e2 := sp_hi (a := a) i hi6
    have hi1 : (i : Int) + 1 = ((i + 1 : Nat) : Int) := by omega
    have hl := get_lt h3
    have hl1 : 1 ≤ M.length := by omega
    obtain ⟨M2, hM2⟩ : ∃ M2, M ++ [some (AObj.cells ⟨[.int .i64 0, .int .i64 0], 1, false⟩)] = M2 := ⟨_, rfl⟩
    have q1 : M2[1]? = some (speB a) := by rw [← hM2, List.getElem?_append_left (by omega)]; exact h2
    have q2 : M2[2]? = some (wafB s) := by rw [← hM2, List.getElem?_append_left (by omega)]; exact h3
    have q3 : M2[M.length]? = some (some (AObj.cells ⟨[.int .i64 0, .int .i64 0], 1, false⟩)) := by
      rw [← hM2, List.getElem?_append_right (Nat.le_refl _), Nat.sub_self]
      rfl
    have n1 : ¬ (0 : Int) < -1000000000000000 := by decide
    have n2 : ¬ (1000000000000000 : Int) < 0 := by decide
    refine ITri.skip ?_; simp only [SeqQ_normal, BlkQ_normal]
    refine ITri.seq ?_
    refine ITri.block ?_ -- 1
    refine ITri.seq ?_
    refine ITri.reg pok ?_; simp -implicitDefEqProofs (disch := first | decide | exact of_eq_true (eq_true rfl) | omega | assumption) only [ ↓vcD, vcE, ↓vcG, vcF, evs, evP, evB, intsOf, fillC, Value.cells, pt, Value.oneCell', reduceIte, reduceCtorEq, Nat.reduceEqDiff, Nat.reduceAdd, Nat.reduceMul, Nat.reduceLT, Nat.reduceBEq, Nat.reduceLeDiff, Nat.reduceSub] -- r3
    refine gen_idx rfl rfl (idx_zer i hi6) ?_
    simp -implicitDefEqProofs (disch := first | decide | exact of_eq_true (eq_true rfl) | omega | assumption) only [apd_get, apd_get0, apd_set0, apd_set, List.length_append, List.append_assoc, Nat.add_assoc, hl1,  ↓vcD, vcE, ↓vcG, vcF, evs, evP, evB, intsOf, fillC, Value.cells, pt, Value.oneCell', reduceIte, reduceCtorEq, Nat.reduceEqDiff, Nat.reduceAdd, Nat.reduceMul, Nat.reduceLT, Nat.reduceBEq, Nat.reduceLeDiff, Nat.reduceSub]
    rw [hM2]
    refine ITri.seq ?_
    refine ITri.draw pok ?_; simp -implicitDefEqProofs (disch := first | decide | exact of_eq_true (eq_true rfl) | omega | assumption) only [q1, q2, q3, e1, e2, n1, n2, decide_false,  ↓vcD, vcE, ↓vcG, vcF, evs, evP, evB, intsOf, fillC, Value.cells, pt, Value.oneCell', reduceIte, reduceCtorEq, Nat.reduceEqDiff, Nat.reduceAdd, Nat.reduceMul, Nat.reduceLT, Nat.reduceBEq, Nat.reduceLeDiff, Nat.reduceSub] -- r4
    refine ITri.cond (v := false) rfl (fun h => by cases h) (fun _ => ?_); refine ITri.skip ?_; simp only [SeqQ_normal, BlkQ_normal]
    refine ITri.reg pok ?_; simp -implicitDefEqProofs (disch := first | decide | exact of_eq_true (eq_true rfl) | omega | assumption) only [hi1,  ↓vcD, vcE, ↓vcG, vcF, evs, evP, evB, intsOf, fillC, Value.cells, pt, Value.oneCell', reduceIte, reduceCtorEq, Nat.reduceEqDiff, Nat.reduceAdd, Nat.reduceMul, Nat.reduceLT, Nat.reduceBEq, Nat.reduceLeDiff, Nat.reduceSub] -- r6
    exact LoopQ.next ⟨i + 1, M2⟩ ⟨by show i + 1 ≤ 6; omega, q1, q2⟩ (by show 6 - (i + 1) < 6 - i; omega) (Wk.sub ⟨rfl, rfl, rfl, rfl, trivial⟩)
  refine ITri.exit ?_; try simp -implicitDefEqProofs (disch := first | decide | exact of_eq_true (eq_true rfl) | omega | assumption) only [ ↓vcD, vcE, ↓vcG, vcF, evs, evP, evB, intsOf, fillC, Value.cells, pt, Value.oneCell', reduceIte, reduceCtorEq, Nat.reduceEqDiff, Nat.reduceAdd, Nat.reduceMul, Nat.reduceLT, Nat.reduceBEq, Nat.reduceLeDiff, Nat.reduceSub] -- exit 0
  have w12 : (wafL s)[12]? = some (.int .u8 s) := rfl
  have s12 : (specL a)[12]? = some (.int .u8 a) := rfl
  refine ITri.seq ?_
  refine ITri.seq ?_
  by_cases hz : s &&& a = s
  · have hq := (an_eq hs ha).2 hz
    rw [if_pos hz]
    refine ITri.reg pok ?_; simp -implicitDefEqProofs (disch := first | decide | exact of_eq_true (eq_true rfl) | omega | assumption) only [h2, h3, w12, s12, hq, decide_true, Bool.not_true,  ↓vcD, vcE, ↓vcG, vcF, evs, evP, evB, intsOf, fillC, Value.cells, pt, Value.oneCell', reduceIte, reduceCtorEq, Nat.reduceEqDiff, Nat.reduceAdd, Nat.reduceMul, Nat.reduceLT, Nat.reduceBEq, Nat.reduceLeDiff, Nat.reduceSub] -- r7
    refine ITri.cond (v := false) rfl (fun h => by cases h) (fun _ => ?_); refine ITri.skip ?_; simp only [SeqQ_normal, BlkQ_normal]
    refine ITri.seq ?_
    refine ITri.reg pok ?_; simp -implicitDefEqProofs (disch := first | decide | exact of_eq_true (eq_true rfl) | omega | assumption) only [ ↓vcD, vcE, ↓vcG, vcF, evs, evP, evB, intsOf, fillC, Value.cells, pt, Value.oneCell', reduceIte, reduceCtorEq, Nat.reduceEqDiff, Nat.reduceAdd, Nat.reduceMul, Nat.reduceLT, Nat.reduceBEq, Nat.reduceLeDiff, Nat.reduceSub] -- r9
    refine ITri.ret ?_; exact EndR.plain (by simp) (by rfl) (by rfl) (by rfl)
  · have hq : ¬ btI .andNot .u8 (s : Int) (a : Int) = 0 := fun h => hz ((an_eq hs ha).1 h)
    rw [if_neg hz]
    refine ITri.reg pok ?_; simp -implicitDefEqProofs (disch := first | decide | exact of_eq_true (eq_true rfl) | omega | assumption) only [h2, h3, w12, s12, hq, decide_false, Bool.not_false,  ↓vcD, vcE, ↓vcG, vcF, evs, evP, evB, intsOf, fillC, Value.cells, pt, Value.oneCell', reduceIte, reduceCtorEq, Nat.reduceEqDiff, Nat.reduceAdd, Nat.reduceMul, Nat.reduceLT, Nat.reduceBEq, Nat.reduceLeDiff, Nat.reduceSub] -- r7
    refine ITri.cond (v := true) rfl (fun _ => ?_) (fun h => by cases h)
    refine ITri.seq ?_
    refine ITri.reg pok ?_; simp -implicitDefEqProofs (disch := first | decide | exact of_eq_true (eq_true rfl) | omega | assumption) only [ ↓vcD, vcE, ↓vcG, vcF, evs, evP, evB, intsOf, fillC, Value.cells, pt, Value.oneCell', reduceIte, reduceCtorEq, Nat.reduceEqDiff, Nat.reduceAdd, Nat.reduceMul, Nat.reduceLT, Nat.reduceBEq, Nat.reduceLeDiff, Nat.reduceSub] -- r8
    refine ITri.ret ?_; exact EndR.plain (by simp) (by rfl) (by rfl) (by rfl)
theorem fault_f {a s : Nat} (ha : a < 32) (hs : s < 32) {h : AH} (h0 : h.sees 0 = true) : Fc Tryd.prog 17 [.agg ⟨specL a⟩, .agg ⟨wafL s⟩] h (.int .i64 (if s &&& a = s then -1 else 6)) h := Fc.lift0 (fault_c ha hs) rfl rfl h0
/- boule/order.never · slots 38 · names 0:s 1:w 2:s 3:w 5:i 6:r · results [4] -/
def ir18_r0 : IC := .reg [⟨some 2, none, false, .box (.t 0)⟩,
  ⟨some 3, none, false, .box (.t 1)⟩,
  ⟨some 4, none, false, .mv (.k (.bool false))⟩] (some [2, 3])
def ir18_r1 : IC := .reg [⟨some 7, none, false, .fad 0 (.t 3)⟩,
  ⟨some 8, none, false, .lda 12 (.t 7)⟩,
  ⟨some 9, none, false, .mv (.k (.int .i64 0))⟩] (some [2, 3, 8, 9])
def ir18_r2 : IC := .reg [⟨some 10, none, false, .cmp .lss (.t 9) (.k (.int .i64 6))⟩] (some [2, 3, 8, 9, 10])
def ir18_1 : IC := .cond (.t 10) .skip (.exit 0)
def ir18_r3 : IC := .reg [⟨some 11, none, false, .mv (.t 9)⟩,
  ⟨some 12, none, false, .gen (.index 37 (.tmp 8) (.tmp 9))⟩,
  ⟨some 6, none, false, .alloc [(.int .i64 0), (.int .i64 0)]⟩,
  ⟨some 5, none, false, .mv (.t 11)⟩,
  ⟨none, none, false, .st 2 (.t 6) (.t 12)⟩] (some [2, 3, 5, 6, 8, 9])
def ir18_r4 : IC := .draw [(⟨some 13, none, false, .fad 1 (.t 6)⟩, false, 0, 0),
  (⟨some 14, none, false, .ldc (.t 13)⟩, false, 1, 1),
  (⟨some 15, none, false, .mv (.t 5)⟩, false, 0, 0),
  (⟨some 16, none, false, .fad 0 (.t 2)⟩, false, 0, 0),
  (⟨some 17, none, false, .iada 6 2 (.t 16) (.t 15)⟩, false, 12, 0),
  (⟨some 18, none, false, .fad 0 (.t 17)⟩, false, 28, 0),
  (⟨some 19, none, false, .ldc (.t 18)⟩, false, 60, 2),
  (⟨some 20, none, false, .cmp .lss (.t 14) (.t 19)⟩, false, 127, 0),
  (⟨some 21, none, false, .mv (.t 20)⟩, false, 255, 0),
  (⟨some 22, some (21, false), false, .fad 0 (.t 6)⟩, false, 511, 0),
  (⟨some 23, some (21, false), false, .ldc (.t 22)⟩, false, 1023, 1),
  (⟨some 24, some (21, false), false, .mv (.t 5)⟩, false, 511, 0),
  (⟨some 25, some (21, false), false, .fad 0 (.t 2)⟩, false, 511, 0),
  (⟨some 26, some (21, false), false, .iada 6 2 (.t 25) (.t 24)⟩, false, 6655, 0),
  (⟨some 27, some (21, false), false, .fad 1 (.t 26)⟩, false, 14847, 0),
  (⟨some 28, some (21, false), false, .ldc (.t 27)⟩, false, 31231, 1024),
  (⟨some 29, some (21, false), false, .cmp .gtr (.t 23) (.t 28)⟩, false, 65535, 0),
  (⟨some 30, none, false, .pick (.t 21) (.k (.bool true)) (.t 29)⟩, false, 131071, 0)] (some [2, 3, 8, 9, 30])
def ir18_r5 : IC := .reg [⟨some 4, none, false, .mv (.k (.bool true))⟩] (some [4])
def ir18_2 : IC := .seq ir18_r5 .ret
def ir18_3 : IC := .cond (.t 30) ir18_2 .skip
def ir18_4 : IC := .seq ir18_r4 ir18_3
def ir18_5 : IC := .seq ir18_r3 ir18_4
def ir18_6 : IC := .block 1 ir18_5
def ir18_r6 : IC := .reg [⟨some 31, none, false, .ar .add (.t 9) (.k (.int .i64 1))⟩,
  ⟨some 9, none, false, .mv (.t 31)⟩] (some [2, 3, 8, 9])
def ir18_7 : IC := .seq ir18_6 ir18_r6
def ir18_8 : IC := .seq ir18_1 ir18_7
def ir18_9 : IC := .seq ir18_r2 ir18_8
def ir18_10 : IC := .loop ir18_9
def ir18_11 : IC := .block 0 ir18_10
def ir18_12 : IC := .seq ir18_r1 ir18_11
def ir18_r7 : IC := .reg [⟨some 32, none, false, .fad 12 (.t 3)⟩,
  ⟨some 33, none, false, .ldc (.t 32)⟩,
  ⟨some 34, none, false, .fad 12 (.t 2)⟩,
  ⟨some 35, none, false, .ldc (.t 34)⟩,
  ⟨some 36, none, false, .bits .and (.t 33) (.t 35)⟩,
  ⟨some 37, none, false, .cmp .eql (.t 36) (.k (.int .u8 0))⟩,
  ⟨some 4, none, false, .mv (.t 37)⟩] (some [4])
def ir18_13 : IC := .seq ir18_r7 .ret
def ir18_14 : IC := .seq ir18_12 ir18_13
def ir18_15 : IC := .seq ir18_r0 ir18_14
def ir18 : IC := ir18_15
theorem fn18 : FnIs Tryd.prog 18 ir18 38 [.tmp 4] := ⟨Tryd.f18, Tryd.f18.body.getD .skip, Tryd.func18, by kernel_rfl, by kernel_rfl, by kernel_rfl, by kernel_rfl⟩
theorem never_c {a s : Nat} (ha : a < 32) (hs : s < 32) : Fc Tryd.prog 18 [.agg ⟨specL a⟩, .agg ⟨wafL s⟩] (Hp 1 [none]) (.bool (decide (s &&& a = 0))) (Hp 1 [none]) := by
  refine Fc.intro0 fn18 (by simp) rfl rfl ?_; simp only [argF]
  have hT : takeC (wafL s) 0 12 = some zerL := rfl
  refine ITri.seq ?_
  refine ITri.reg pok ?_; simp -implicitDefEqProofs (disch := first | decide | exact of_eq_true (eq_true rfl) | omega | assumption) only [ ↓vcD, vcE, ↓vcG, vcF, evs, evP, evB, intsOf, fillC, Value.cells, pt, Value.oneCell', reduceIte, reduceCtorEq, Nat.reduceEqDiff, Nat.reduceAdd, Nat.reduceMul, Nat.reduceLT, Nat.reduceBEq, Nat.reduceLeDiff, Nat.reduceSub] -- r0
  refine ITri.seq ?_
  refine ITri.seq ?_
  refine ITri.reg pok ?_; simp -implicitDefEqProofs (disch := first | decide | exact of_eq_true (eq_true rfl) | omega | assumption) only [hT,  ↓vcD, vcE, ↓vcG, vcF, evs, evP, evB, intsOf, fillC, Value.cells, pt, Value.oneCell', reduceIte, reduceCtorEq, Nat.reduceEqDiff, Nat.reduceAdd, Nat.reduceMul, Nat.reduceLT, Nat.reduceBEq, Nat.reduceLeDiff, Nat.reduceSub] -- r1
  refine ITri.block ?_ -- 0
  refine ITri.loop (fun x : FS => [(2, pt 1), (3, pt 2), (8, .agg ⟨zerL⟩), (9, .int .i64 x.i)]) (fun _ => []) (fun x => Hp 1 x.M) (FI a s) (fun x => 6 - x.i) ⟨0, [none, speB a, wafB s]⟩ ⟨Nat.zero_le _, rfl, rfl⟩ (Wk.sub ⟨rfl, rfl, rfl, rfl, trivial⟩) fun x hx => ?_
  obtain ⟨i, M⟩ := x
  obtain ⟨h1, h2, h3⟩ := hx
  simp only at h1 h2 h3
  refine ITri.seq ?_
  refine ITri.reg pok ?_; simp -implicitDefEqProofs (disch := first | decide | exact of_eq_true (eq_true rfl) | omega | assumption) only [ ↓vcD, vcE, ↓vcG, vcF, evs, evP, evB, intsOf, fillC, Value.cells, pt, Value.oneCell', reduceIte, reduceCtorEq, Nat.reduceEqDiff, Nat.reduceAdd, Nat.reduceMul, Nat.reduceLT, Nat.reduceBEq, Nat.reduceLeDiff, Nat.reduceSub] -- r2
  refine ITri.seq ?_
  refine ITri.condD (by rfl) (fun hi => ?_) (fun hi => ?_) -- %10
  · have hi6 : i < 6 := by omega
    have e1 := sp_lo (a := a) i hi6
    have e2 := sp_hi (a := a) i hi6
    have hi1 : (i : Int) + 1 = ((i + 1 : Nat) : Int) := by omega
    have hl := get_lt h3
    have hl1 : 1 ≤ M.length := by omega
    obtain ⟨M2, hM2⟩ : ∃ M2, M ++ [some (AObj.cells ⟨[.int .i64 0, .int .i64 0], 1, false⟩)] = M2 := ⟨_, rfl⟩
    have q1 : M2[1]? = some (speB a) := by rw [← hM2, List.getElem?_append_left (by omega)]; exact h2
    have q2 : M2[2]? = some (wafB s) := by rw [← hM2, List.getElem?_append_left (by omega)]; exact h3
    have q3 : M2[M.length]? = some (some (AObj.cells ⟨[.int .i64 0, .int .i64 0], 1, false⟩)) := by
      rw [← hM2, List.getElem?_append_right (Nat.le_refl _), Nat.sub_self]
      rfl
    have n1 : ¬ (0 : Int) < -1000000000000000 := by decide
    have n2 : ¬ (1000000000000000 : Int) < 0 := by decide
    refine ITri.skip ?_; simp only [SeqQ_normal, BlkQ_normal]
    refine ITri.seq ?_
    refine ITri.block ?_ -- 1
    refine ITri.seq ?_
    refine ITri.reg pok ?_; simp -implicitDefEqProofs (disch := first | decide | exact of_eq_true (eq_true rfl) | omega | assumption) only [ ↓vcD, vcE, ↓vcG, vcF, evs, evP, evB, intsOf, fillC, Value.cells, pt, Value.oneCell', reduceIte, reduceCtorEq, Nat.reduceEqDiff, Nat.reduceAdd, Nat.reduceMul, Nat.reduceLT, Nat.reduceBEq, Nat.reduceLeDiff, Nat.reduceSub] -- r3
    refine gen_idx rfl rfl (idx_zer i hi6) ?_
    simp -implicitDefEqProofs (disch := first | decide | exact of_eq_true (eq_true rfl) | omega | assumption) only [apd_get, apd_get0, apd_set0, apd_set, List.length_append, List.append_assoc, Nat.add_assoc, hl1,  ↓vcD, vcE, ↓vcG, vcF, evs, evP, evB, intsOf, fillC, Value.cells, pt, Value.oneCell', reduceIte, reduceCtorEq, Nat.reduceEqDiff, Nat.reduceAdd, Nat.reduceMul, Nat.reduceLT, Nat.reduceBEq, Nat.reduceLeDiff, Nat.reduceSub]
    rw [hM2]
    refine ITri.seq ?_
    refine ITri.draw pok ?_; simp -implicitDefEqProofs (disch := first | decide | exact of_eq_true (eq_true rfl) | omega | assumption) only [q1, q2, q3, e1, e2, n1, n2, decide_false,  ↓vcD, vcE, ↓vcG, vcF, evs, evP, evB, intsOf, fillC, Value.cells, pt, Value.oneCell', reduceIte, reduceCtorEq, Nat.reduceEqDiff, Nat.reduceAdd, Nat.reduceMul, Nat.reduceLT, Nat.reduceBEq, Nat.reduceLeDiff, Nat.reduceSub] -- r4
    refine ITri.cond (v := false) rfl (fun h => by cases h) (fun _ => ?_); refine ITri.skip ?_; simp only [SeqQ_normal, BlkQ_normal]
    refine ITri.reg pok ?_; simp -implicitDefEqProofs (disch := first | decide | exact of_eq_true (eq_true rfl) | omega | assumption) only [hi1,  ↓vcD, vcE, ↓vcG, vcF, evs, evP, evB, intsOf, fillC, Value.cells, pt, Value.oneCell', reduceIte, reduceCtorEq, Nat.reduceEqDiff, Nat.reduceAdd, Nat.reduceMul, Nat.reduceLT, Nat.reduceBEq, Nat.reduceLeDiff, Nat.reduceSub] -- r6
    exact LoopQ.next ⟨i + 1, M2⟩ ⟨by show i + 1 ≤ 6; omega, q1, q2⟩ (by show 6 - (i + 1) < 6 - i; omega) (Wk.sub ⟨rfl, rfl, rfl, rfl, trivial⟩)
  refine ITri.exit ?_; try simp -implicitDefEqProofs (disch := first | decide | exact of_eq_true (eq_true rfl) | omega | assumption) only [ ↓vcD, vcE, ↓vcG, vcF, evs, evP, evB, intsOf, fillC, Value.cells, pt, Value.oneCell', reduceIte, reduceCtorEq, Nat.reduceEqDiff, Nat.reduceAdd, Nat.reduceMul, Nat.reduceLT, Nat.reduceBEq, Nat.reduceLeDiff, Nat.reduceSub] -- exit 0
  have w12 : (wafL s)[12]? = some (.int .u8 s) := rfl
  have s12 : (specL a)[12]? = some (.int .u8 a) := rfl
  refine ITri.seq ?_
  by_cases hz : s &&& a = 0
  · have hq := (ad_eq hs ha).2 hz
    rw [decide_eq_true hz]
    refine ITri.reg pok ?_; simp -implicitDefEqProofs (disch := first | decide | exact of_eq_true (eq_true rfl) | omega | assumption) only [h2, h3, w12, s12, hq, decide_true,  ↓vcD, vcE, ↓vcG, vcF, evs, evP, evB, intsOf, fillC, Value.cells, pt, Value.oneCell', reduceIte, reduceCtorEq, Nat.reduceEqDiff, Nat.reduceAdd, Nat.reduceMul, Nat.reduceLT, Nat.reduceBEq, Nat.reduceLeDiff, Nat.reduceSub] -- r7
    refine ITri.ret ?_; exact EndR.plain (by simp) (by rfl) (by rfl) (by rfl)
  · have hq : ¬ btI .and .u8 (s : Int) (a : Int) = 0 := fun h => hz ((ad_eq hs ha).1 h)
    rw [decide_eq_false hz]
    refine ITri.reg pok ?_; simp -implicitDefEqProofs (disch := first | decide | exact of_eq_true (eq_true rfl) | omega | assumption) only [h2, h3, w12, s12, hq, decide_false,  ↓vcD, vcE, ↓vcG, vcF, evs, evP, evB, intsOf, fillC, Value.cells, pt, Value.oneCell', reduceIte, reduceCtorEq, Nat.reduceEqDiff, Nat.reduceAdd, Nat.reduceMul, Nat.reduceLT, Nat.reduceBEq, Nat.reduceLeDiff, Nat.reduceSub] -- r7
    refine ITri.ret ?_; exact EndR.plain (by simp) (by rfl) (by rfl) (by rfl)
theorem never_f {a s : Nat} (ha : a < 32) (hs : s < 32) {h : AH} (h0 : h.sees 0 = true) : Fc Tryd.prog 18 [.agg ⟨specL a⟩, .agg ⟨wafL s⟩] h (.bool (decide (s &&& a = 0))) h := Fc.lift0 (never_c ha hs) rfl rfl h0
end Go.Proofs.YtfbkbkgjmpbmaaaDoor
