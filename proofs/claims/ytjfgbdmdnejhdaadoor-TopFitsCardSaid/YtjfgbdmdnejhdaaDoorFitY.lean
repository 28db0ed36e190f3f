/-
  Chapter 10 at the top: Passes at an open thickness, by names.
-/
import Derived.Test.YtjfgbdmdnejhdaaDoorFitX
set_option linter.unusedSimpArgs false
set_option linter.unusedVariables false
namespace Go.Proofs.YtjfgbdmdnejhdaaDoor
open Go.RowKit Go.Vm
set_option maxRecDepth 1000000
def vF (x d : Int) (i : Nat) : Int := if i = 3 then x else d
theorem idx_zer (a b : Int) : ∀ i, i < 6 → aIndex Tryd.prog 48 (.agg ⟨zerT a b⟩) (.int .i64 (i : Nat)) = some (.agg ⟨[.int .i64 (vF a 0 i), .int .i64 (vF b 0 i)]⟩) := six (by kernel_rfl) (by kernel_rfl) (by kernel_rfl) (by kernel_rfl) (by kernel_rfl) (by kernel_rfl)
theorem sp_lo (a b : Int) : ∀ i, i < 6 → (specT a b)[i * 2]? = some (.int .i64 (vF a (-1000000000000000) i)) := six rfl rfl rfl rfl rfl rfl
theorem sp_hi (a b : Int) : ∀ i, i < 6 → (specT a b)[i * 2 + 1]? = some (.int .i64 (vF b 1000000000000000 i)) := six rfl rfl rfl rfl rfl rfl
structure FS where
  i : Nat
  M : List (Option AObj)
section
variable {tl th a b : Int}
/-- Both blocks stand, and what was looked at is within. -/
structure FI (tl th a b : Int) (Q : Prop) (x : FS) : Prop where
  le : x.i ≤ 6
  s : x.M[1]? = some (speO tl th)
  w : x.M[2]? = some (wafO a b)
  q : 3 < x.i → Q
/- boule/order.fault · slots 39 · names 0:s 1:w 2:s 3:w 5:i 6:r · results [4] -/
def ir22_r0 : IC := .reg [⟨some 2, none, false, .box (.t 0)⟩,
  ⟨some 3, none, false, .box (.t 1)⟩,
  ⟨some 4, none, false, .mv (.k (.int .i64 0))⟩] (some [2, 3])
def ir22_r1 : IC := .reg [⟨some 7, none, false, .fad 0 (.t 3)⟩,
  ⟨some 8, none, false, .lda 12 (.t 7)⟩,
  ⟨some 9, none, false, .mv (.k (.int .i64 0))⟩] (some [2, 3, 8, 9])
def ir22_r2 : IC := .reg [⟨some 10, none, false, .cmp .lss (.t 9) (.k (.int .i64 6))⟩] (some [2, 3, 8, 9, 10])
def ir22_1 : IC := .cond (.t 10) .skip (.exit 0)
def ir22_r3 : IC := .reg [⟨some 11, none, false, .mv (.t 9)⟩,
  ⟨some 12, none, false, .gen (.index 48 (.tmp 8) (.tmp 9))⟩,
  ⟨some 6, none, false, .alloc [(.int .i64 0), (.int .i64 0)]⟩,
  ⟨some 5, none, false, .mv (.t 11)⟩,
  ⟨none, none, false, .st 2 (.t 6) (.t 12)⟩] (some [2, 3, 5, 6, 8, 9])
def ir22_r4 : IC := .draw [(⟨some 13, none, false, .fad 0 (.t 6)⟩, false, 0, 0),
  (⟨some 14, none, false, .ldc (.t 13)⟩, false, 1, 1),
  (⟨some 15, none, false, .mv (.t 5)⟩, false, 0, 0),
  (⟨some 16, none, false, .fad 0 (.t 2)⟩, false, 0, 0),
  (⟨some 17, none, false, .iada 6 2 (.t 16) (.t 15)⟩, false, 12, 0),
  (⟨some 18, none, false, .fad 0 (.t 17)⟩, false, 28, 0),
  (⟨some 19, none, false, .ldc (.t 18)⟩, false, 60, 2),
  (⟨some 20, none, false, .cmp .lss (.t 14) (.t 19)⟩, false, 127, 0),
  (⟨some 21, none, false, .mv (.t 20)⟩, false, 255, 0),
  (⟨some 22, some (21, false), false, .fad 1 (.t 6)⟩, false, 511, 0),
  (⟨some 23, some (21, false), false, .ldc (.t 22)⟩, false, 1023, 1),
  (⟨some 24, some (21, false), false, .mv (.t 5)⟩, false, 511, 0),
  (⟨some 25, some (21, false), false, .fad 0 (.t 2)⟩, false, 511, 0),
  (⟨some 26, some (21, false), false, .iada 6 2 (.t 25) (.t 24)⟩, false, 6655, 0),
  (⟨some 27, some (21, false), false, .fad 1 (.t 26)⟩, false, 14847, 0),
  (⟨some 28, some (21, false), false, .ldc (.t 27)⟩, false, 31231, 1024),
  (⟨some 29, some (21, false), false, .cmp .gtr (.t 23) (.t 28)⟩, false, 65535, 0),
  (⟨some 30, none, false, .pick (.t 21) (.k (.bool true)) (.t 29)⟩, false, 131071, 0)] (some [2, 3, 5, 8, 9, 30])
def ir22_r5 : IC := .reg [⟨some 31, none, false, .mv (.t 5)⟩,
  ⟨some 4, none, false, .mv (.t 31)⟩] (some [4])
def ir22_2 : IC := .seq ir22_r5 .ret
def ir22_3 : IC := .cond (.t 30) ir22_2 .skip
def ir22_4 : IC := .seq ir22_r4 ir22_3
def ir22_5 : IC := .seq ir22_r3 ir22_4
def ir22_6 : IC := .block 1 ir22_5
def ir22_r6 : IC := .reg [⟨some 32, none, false, .ar .add (.t 9) (.k (.int .i64 1))⟩,
  ⟨some 9, none, false, .mv (.t 32)⟩] (some [2, 3, 8, 9])
def ir22_7 : IC := .seq ir22_6 ir22_r6
def ir22_8 : IC := .seq ir22_1 ir22_7
def ir22_9 : IC := .seq ir22_r2 ir22_8
def ir22_10 : IC := .loop ir22_9
def ir22_11 : IC := .block 0 ir22_10
def ir22_12 : IC := .seq ir22_r1 ir22_11
def ir22_r7 : IC := .reg [⟨some 33, none, false, .fad 12 (.t 3)⟩,
  ⟨some 34, none, false, .ldc (.t 33)⟩,
  ⟨some 35, none, false, .fad 12 (.t 2)⟩,
  ⟨some 36, none, false, .ldc (.t 35)⟩,
  ⟨some 37, none, false, .bits .andNot (.t 34) (.t 36)⟩,
  ⟨some 38, none, false, .cmp .neq (.t 37) (.k (.int .u8 0))⟩] (some [38])
def ir22_r8 : IC := .reg [⟨some 4, none, false, .mv (.k (.int .i64 6))⟩] (some [4])
def ir22_13 : IC := .seq ir22_r8 .ret
def ir22_14 : IC := .cond (.t 38) ir22_13 .skip
def ir22_15 : IC := .seq ir22_r7 ir22_14
def ir22_r9 : IC := .reg [⟨some 4, none, false, .mv (.k (.int .i64 (-1)))⟩] (some [4])
def ir22_16 : IC := .seq ir22_r9 .ret
def ir22_17 : IC := .seq ir22_15 ir22_16
def ir22_18 : IC := .seq ir22_12 ir22_17
def ir22_19 : IC := .seq ir22_r0 ir22_18
def ir22 : IC := ir22_19
theorem fn22 : FnIs Tryd.prog 22 ir22 39 [.tmp 4] := ⟨Tryd.f22, Tryd.f22.body.getD .skip, Tryd.func22, by kernel_rfl, by kernel_rfl, by kernel_rfl, by kernel_rfl⟩
/- boule/order.never · slots 38 · names 0:s 1:w 2:s 3:w 5:i 6:r · results [4] -/
def ir23_r0 : IC := .reg [⟨some 2, none, false, .box (.t 0)⟩,
  ⟨some 3, none, false, .box (.t 1)⟩,
  ⟨some 4, none, false, .mv (.k (.bool false))⟩] (some [2, 3])
def ir23_r1 : IC := .reg [⟨some 7, none, false, .fad 0 (.t 3)⟩,
  ⟨some 8, none, false, .lda 12 (.t 7)⟩,
  ⟨some 9, none, false, .mv (.k (.int .i64 0))⟩] (some [2, 3, 8, 9])
def ir23_r2 : IC := .reg [⟨some 10, none, false, .cmp .lss (.t 9) (.k (.int .i64 6))⟩] (some [2, 3, 8, 9, 10])
def ir23_1 : IC := .cond (.t 10) .skip (.exit 0)
def ir23_r3 : IC := .reg [⟨some 11, none, false, .mv (.t 9)⟩,
  ⟨some 12, none, false, .gen (.index 48 (.tmp 8) (.tmp 9))⟩,
  ⟨some 6, none, false, .alloc [(.int .i64 0), (.int .i64 0)]⟩,
  ⟨some 5, none, false, .mv (.t 11)⟩,
  ⟨none, none, false, .st 2 (.t 6) (.t 12)⟩] (some [2, 3, 5, 6, 8, 9])
def ir23_r4 : IC := .draw [(⟨some 13, none, false, .fad 1 (.t 6)⟩, false, 0, 0),
  (⟨some 14, none, false, .ldc (.t 13)⟩, false, 1, 1),
  (⟨some 15, none, false, .mv (.t 5)⟩, false, 0, 0),
  (⟨some 16, none, false, .fad 0 (.t 2)⟩, false, 0, 0),
  (⟨some 17, none, false, .iada 6 2 (.t 16) (.t 15)⟩, false, 12, 0),
  (⟨some 18, none, false, .fad 0 (.t 17)⟩, false, 28, 0),
  (⟨some 19, none, false, .ldc (.t 18)⟩, false, 60, 2),
  (⟨some 20, none, false, .cmp .lss (.t 14) (.t 19)⟩, false, 127, 0),
  (⟨some 21, none, false, .mv (.t 20)⟩, false, 255, 0),
  (⟨some 22, some (21, false), false, .fad 0 (.t 6)⟩, false, 511, 0),
  (⟨some 23, some (21, false), false, .ldc (.t 22)⟩, false, 1023, 1),
  (⟨some 24, some (21, false), false, .mv (.t 5)⟩, false, 511, 0),
  (⟨some 25, some (21, false), false, .fad 0 (.t 2)⟩, false, 511, 0),
  (⟨some 26, some (21, false), false, .iada 6 2 (.t 25) (.t 24)⟩, false, 6655, 0),
  (⟨some 27, some (21, false), false, .fad 1 (.t 26)⟩, false, 14847, 0),
  (⟨some 28, some (21, false), false, .ldc (.t 27)⟩, false, 31231, 1024),
  (⟨some 29, some (21, false), false, .cmp .gtr (.t 23) (.t 28)⟩, false, 65535, 0),
  (⟨some 30, none, false, .pick (.t 21) (.k (.bool true)) (.t 29)⟩, false, 131071, 0)] (some [2, 3, 8, 9, 30])
def ir23_r5 : IC := .reg [⟨some 4, none, false, .mv (.k (.bool true))⟩] (some [4])
def ir23_2 : IC := .seq ir23_r5 .ret
def ir23_3 : IC := .cond (.t 30) ir23_2 .skip
def ir23_4 : IC := .seq ir23_r4 ir23_3
def ir23_5 : IC := .seq ir23_r3 ir23_4
def ir23_6 : IC := .block 1 ir23_5
def ir23_r6 : IC := .reg [⟨some 31, none, false, .ar .add (.t 9) (.k (.int .i64 1))⟩,
  ⟨some 9, none, false, .mv (.t 31)⟩] (some [2, 3, 8, 9])
def ir23_7 : IC := .seq ir23_6 ir23_r6
def ir23_8 : IC := .seq ir23_1 ir23_7
def ir23_9 : IC := .seq ir23_r2 ir23_8
def ir23_10 : IC := .loop ir23_9
def ir23_11 : IC := .block 0 ir23_10
def ir23_12 : IC := .seq ir23_r1 ir23_11
def ir23_r7 : IC := .reg [⟨some 32, none, false, .fad 12 (.t 3)⟩,
  ⟨some 33, none, false, .ldc (.t 32)⟩,
  ⟨some 34, none, false, .fad 12 (.t 2)⟩,
  ⟨some 35, none, false, .ldc (.t 34)⟩,
  ⟨some 36, none, false, .bits .and (.t 33) (.t 35)⟩,
  ⟨some 37, none, false, .cmp .eql (.t 36) (.k (.int .u8 0))⟩,
  ⟨some 4, none, false, .mv (.t 37)⟩] (some [4])
def ir23_13 : IC := .seq ir23_r7 .ret
def ir23_14 : IC := .seq ir23_12 ir23_13
def ir23_15 : IC := .seq ir23_r0 ir23_14
def ir23 : IC := ir23_15
theorem fn23 : FnIs Tryd.prog 23 ir23 38 [.tmp 4] := ⟨Tryd.f23, Tryd.f23.body.getD .skip, Tryd.func23, by kernel_rfl, by kernel_rfl, by kernel_rfl, by kernel_rfl⟩
/- boule/order.Passes · slots 24 · names 0:s 1:w 2:s 3:w · results [4, 5] -/
def ir10_r0 : IC := .reg [⟨some 2, none, false, .box (.t 0)⟩,
  ⟨some 3, none, false, .box (.t 1)⟩,
  ⟨some 4, none, false, .mv (.k (.int .u8 0))⟩,
  ⟨some 5, none, false, .mv (.k (.int .i64 0))⟩] (some [2, 3])
def ir10_r1 : IC := .reg [⟨some 7, none, false, .lda 13 (.t 2)⟩,
  ⟨some 8, none, false, .call (.f 20) [(.t 7)]⟩,
  ⟨some 9, none, false, .not (.t 8)⟩,
  ⟨some 10, none, false, .mv (.t 9)⟩,
  ⟨some 11, some (10, false), false, .lda 19 (.t 3)⟩,
  ⟨some 12, some (10, false), false, .call (.f 21) [(.t 11)]⟩,
  ⟨some 13, some (10, false), false, .not (.t 12)⟩,
  ⟨some 14, none, false, .pick (.t 10) (.k (.bool true)) (.t 13)⟩,
  ⟨some 6, none, false, .mv (.t 14)⟩] (some [2, 3, 6])
def ir10_r2 : IC := .reg [⟨some 4, none, false, .mv (.k (.int .u8 0))⟩,
  ⟨some 5, none, false, .mv (.k (.int .i64 2))⟩] (some [4, 5])
def ir10_1 : IC := .seq ir10_r2 .ret
def ir10_r3 : IC := .reg [⟨some 16, none, false, .lda 13 (.t 2)⟩,
  ⟨some 17, none, false, .lda 19 (.t 3)⟩,
  ⟨some 18, none, false, .call (.f 22) [(.t 16), (.t 17)]⟩,
  ⟨some 19, none, false, .cmp .lss (.t 18) (.k (.int .i64 0))⟩,
  ⟨some 15, none, false, .mv (.t 19)⟩] (some [2, 3, 15])
def ir10_r4 : IC := .reg [⟨some 4, none, false, .mv (.k (.int .u8 1))⟩,
  ⟨some 5, none, false, .mv (.k (.int .i64 0))⟩] (some [4, 5])
def ir10_2 : IC := .seq ir10_r4 .ret
def ir10_r5 : IC := .reg [⟨some 21, none, false, .lda 13 (.t 2)⟩,
  ⟨some 22, none, false, .lda 19 (.t 3)⟩,
  ⟨some 23, none, false, .call (.f 23) [(.t 21), (.t 22)]⟩,
  ⟨some 20, none, false, .mv (.t 23)⟩] (some [20])
def ir10_r6 : IC := .reg [⟨some 4, none, false, .mv (.k (.int .u8 3))⟩,
  ⟨some 5, none, false, .mv (.k (.int .i64 0))⟩] (some [4, 5])
def ir10_3 : IC := .seq ir10_r6 .ret
def ir10_4 : IC := .cond (.t 20) ir10_3 .skip
def ir10_5 : IC := .seq ir10_r5 ir10_4
def ir10_6 : IC := .cond (.t 15) ir10_2 ir10_5
def ir10_7 : IC := .seq ir10_r3 ir10_6
def ir10_8 : IC := .cond (.t 6) ir10_1 ir10_7
def ir10_9 : IC := .seq ir10_r1 ir10_8
def ir10_10 : IC := .block 0 ir10_9
def ir10_r7 : IC := .reg [⟨some 4, none, false, .mv (.k (.int .u8 2))⟩,
  ⟨some 5, none, false, .mv (.k (.int .i64 0))⟩] (some [4, 5])
def ir10_11 : IC := .seq ir10_r7 .ret
def ir10_12 : IC := .seq ir10_10 ir10_11
def ir10_13 : IC := .seq ir10_r0 ir10_12
def ir10 : IC := ir10_13
theorem fn10 : FnIs Tryd.prog 10 ir10 24 [.tmp 4, .tmp 5] := ⟨Tryd.f10, Tryd.f10.body.getD .skip, Tryd.func10, by kernel_rfl, by kernel_rfl, by kernel_rfl, by kernel_rfl⟩
set_option maxHeartbeats 1000000 in
theorem fault_c {r : Int} (hr : r = if a ≥ tl ∧ b ≤ th then -1 else 3) : Fc Tryd.prog 22 [.agg ⟨specT tl th⟩, .agg ⟨wafT a b⟩] (Hp 1 [none]) (.int .i64 r) (Hp 1 [none]) := by
  refine Fc.intro0 fn22 (by simp) rfl rfl ?_; simp only [argF]
  have hT : takeC (wafT a b) 0 12 = some (zerT a b) := rfl
  refine ITri.seq ?_
  refine ITri.reg pok ?_; simp -implicitDefEqProofs (disch := first | decide | exact of_eq_true (eq_true rfl) | omega | assumption) only [ ↓vcD, vcE, ↓vcG, vcF, evs, evP, evB, intsOf, fillC, Value.cells, pt, Value.oneCell', reduceIte, reduceCtorEq, Nat.reduceEqDiff, Nat.reduceAdd, Nat.reduceMul, Nat.reduceLT, Nat.reduceBEq, Nat.reduceLeDiff, Nat.reduceSub] -- r0
  refine ITri.seq ?_
  refine ITri.seq ?_
  refine ITri.reg pok ?_; simp -implicitDefEqProofs (disch := first | decide | exact of_eq_true (eq_true rfl) | omega | assumption) only [hT,  ↓vcD, vcE, ↓vcG, vcF, evs, evP, evB, intsOf, fillC, Value.cells, pt, Value.oneCell', reduceIte, reduceCtorEq, Nat.reduceEqDiff, Nat.reduceAdd, Nat.reduceMul, Nat.reduceLT, Nat.reduceBEq, Nat.reduceLeDiff, Nat.reduceSub] -- r1
  refine ITri.block ?_ -- 0
  refine ITri.loop (fun x : FS => [(2, pt 1), (3, pt 2), (8, .agg ⟨zerT a b⟩), (9, .int .i64 x.i)]) (fun _ => []) (fun x => Hp 1 x.M) (FI tl th a b (a ≥ tl ∧ b ≤ th)) (fun x => 6 - x.i) ⟨0, [none, speO tl th, wafO a b]⟩ ⟨Nat.zero_le _, rfl, rfl, fun h => absurd (show 3 < 0 from h) (by decide)⟩ (Wk.sub ⟨rfl, rfl, rfl, rfl, trivial⟩) fun x hx => ?_
  obtain ⟨i, M⟩ := x
  obtain ⟨h1, h2, h3, h4⟩ := hx
  simp only at h1 h2 h3 h4
  refine ITri.seq ?_
  refine ITri.reg pok ?_; simp -implicitDefEqProofs (disch := first | decide | exact of_eq_true (eq_true rfl) | omega | assumption) only [ ↓vcD, vcE, ↓vcG, vcF, evs, evP, evB, intsOf, fillC, Value.cells, pt, Value.oneCell', reduceIte, reduceCtorEq, Nat.reduceEqDiff, Nat.reduceAdd, Nat.reduceMul, Nat.reduceLT, Nat.reduceBEq, Nat.reduceLeDiff, Nat.reduceSub] -- r2
  refine ITri.seq ?_
  refine ITri.condD (by rfl) (fun hi => ?_) (fun hi => ?_) -- %10
  · have hi6 : i < 6 := by omega
    have e0 := idx_zer a b i hi6
    have e1 := sp_lo tl th i hi6
    have e2 := sp_hi tl th i hi6
    have hi1 : (i : Int) + 1 = ((i + 1 : Nat) : Int) := by omega
    have k1 : vF a 0 i < vF tl (-1000000000000000) i → i = 3 ∧ a < tl := fun h => by
      unfold vF at h
      by_cases h3 : i = 3
      · rw [if_pos h3, if_pos h3] at h; exact ⟨h3, h⟩
      · rw [if_neg h3, if_neg h3] at h; exact absurd h (by decide)
    have k2 : vF b 0 i > vF th 1000000000000000 i → i = 3 ∧ b > th := fun h => by
      unfold vF at h
      by_cases h3 : i = 3
      · rw [if_pos h3, if_pos h3] at h; exact ⟨h3, h⟩
      · rw [if_neg h3, if_neg h3] at h; exact absurd h (by decide)
    have k3 : i = 3 → ¬ vF a 0 i < vF tl (-1000000000000000) i → ¬ vF b 0 i > vF th 1000000000000000 i → a ≥ tl ∧ b ≤ th := fun h u v => by
      subst h
      have u : ¬ a < tl := u
      have v : ¬ b > th := v
      omega
    generalize vF a 0 i = x1 at *
    generalize vF b 0 i = x2 at *
    generalize vF tl (-1000000000000000) i = y1 at *
    generalize vF th 1000000000000000 i = y2 at *
    have hl := get_lt h3
    have hl1 : 1 ≤ M.length := by omega
    obtain ⟨M2, hM2⟩ : ∃ M2, M ++ [some (AObj.cells ⟨[.int .i64 x1, .int .i64 x2], 1, false⟩)] = M2 := ⟨_, rfl⟩
    have q1 : M2[1]? = some (speO tl th) := by rw [← hM2, List.getElem?_append_left (by omega)]; exact h2
    have q2 : M2[2]? = some (wafO a b) := by rw [← hM2, List.getElem?_append_left (by omega)]; exact h3
    have q3 : M2[M.length]? = some (some (AObj.cells ⟨[.int .i64 x1, .int .i64 x2], 1, false⟩)) := by
      rw [← hM2, List.getElem?_append_right (Nat.le_refl _), Nat.sub_self]
      rfl
    refine ITri.skip ?_; simp only [SeqQ_normal, BlkQ_normal]
    refine ITri.seq ?_
    refine ITri.block ?_ -- 1
    refine ITri.seq ?_
    refine ITri.reg pok ?_; simp -implicitDefEqProofs (disch := first | decide | exact of_eq_true (eq_true rfl) | omega | assumption) only [ ↓vcD, vcE, ↓vcG, vcF, evs, evP, evB, intsOf, fillC, Value.cells, pt, Value.oneCell', reduceIte, reduceCtorEq, Nat.reduceEqDiff, Nat.reduceAdd, Nat.reduceMul, Nat.reduceLT, Nat.reduceBEq, Nat.reduceLeDiff, Nat.reduceSub] -- r3
    refine gen_idx rfl rfl e0 ?_
    simp -implicitDefEqProofs (disch := first | decide | exact of_eq_true (eq_true rfl) | omega | assumption) only [apd_get, apd_get0, apd_set0, apd_set, List.length_append, List.append_assoc, Nat.add_assoc, hl1,  ↓vcD, vcE, ↓vcG, vcF, evs, evP, evB, intsOf, fillC, Value.cells, pt, Value.oneCell', reduceIte, reduceCtorEq, Nat.reduceEqDiff, Nat.reduceAdd, Nat.reduceMul, Nat.reduceLT, Nat.reduceBEq, Nat.reduceLeDiff, Nat.reduceSub]
    rw [hM2]
    refine ITri.seq ?_
    by_cases c1 : x1 < y1
    · obtain ⟨rfl, c⟩ := k1 c1
      obtain rfl : r = 3 := by rw [hr, if_neg (by omega)]
      refine ITri.draw pok ?_; simp -implicitDefEqProofs (disch := first | decide | exact of_eq_true (eq_true rfl) | omega | assumption) only [q1, q2, q3, e1, e2, c1, decide_true,  ↓vcD, vcE, ↓vcG, vcF, evs, evP, evB, intsOf, fillC, Value.cells, pt, Value.oneCell', reduceIte, reduceCtorEq, Nat.reduceEqDiff, Nat.reduceAdd, Nat.reduceMul, Nat.reduceLT, Nat.reduceBEq, Nat.reduceLeDiff, Nat.reduceSub] -- r4
      refine ITri.cond (v := true) rfl (fun _ => ?_) (fun h => by cases h)
      refine ITri.seq ?_
      refine ITri.reg pok ?_; simp -implicitDefEqProofs (disch := first | decide | exact of_eq_true (eq_true rfl) | omega | assumption) only [ ↓vcD, vcE, ↓vcG, vcF, evs, evP, evB, intsOf, fillC, Value.cells, pt, Value.oneCell', reduceIte, reduceCtorEq, Nat.reduceEqDiff, Nat.reduceAdd, Nat.reduceMul, Nat.reduceLT, Nat.reduceBEq, Nat.reduceLeDiff, Nat.reduceSub] -- r5
      refine ITri.ret ?_; exact EndR.plain (by simp) (by rfl) (by rfl) (by rfl)
    by_cases c2 : x2 > y2
    · obtain ⟨rfl, c⟩ := k2 c2
      obtain rfl : r = 3 := by rw [hr, if_neg (by omega)]
      refine ITri.draw pok ?_; simp -implicitDefEqProofs (disch := first | decide | exact of_eq_true (eq_true rfl) | omega | assumption) only [q1, q2, q3, e1, e2, c1, c2, decide_true, decide_false,  ↓vcD, vcE, ↓vcG, vcF, evs, evP, evB, intsOf, fillC, Value.cells, pt, Value.oneCell', reduceIte, reduceCtorEq, Nat.reduceEqDiff, Nat.reduceAdd, Nat.reduceMul, Nat.reduceLT, Nat.reduceBEq, Nat.reduceLeDiff, Nat.reduceSub] -- r4
      refine ITri.cond (v := true) rfl (fun _ => ?_) (fun h => by cases h)
      refine ITri.seq ?_
      refine ITri.reg pok ?_; simp -implicitDefEqProofs (disch := first | decide | exact of_eq_true (eq_true rfl) | omega | assumption) only [ ↓vcD, vcE, ↓vcG, vcF, evs, evP, evB, intsOf, fillC, Value.cells, pt, Value.oneCell', reduceIte, reduceCtorEq, Nat.reduceEqDiff, Nat.reduceAdd, Nat.reduceMul, Nat.reduceLT, Nat.reduceBEq, Nat.reduceLeDiff, Nat.reduceSub] -- r5
      refine ITri.ret ?_; exact EndR.plain (by simp) (by rfl) (by rfl) (by rfl)
    refine ITri.draw pok ?_; simp -implicitDefEqProofs (disch := first | decide | exact of_eq_true (eq_true rfl) | omega | assumption) only [q1, q2, q3, e1, e2, c1, c2, decide_false,  ↓vcD, vcE, ↓vcG, vcF, evs, evP, evB, intsOf, fillC, Value.cells, pt, Value.oneCell', reduceIte, reduceCtorEq, Nat.reduceEqDiff, Nat.reduceAdd, Nat.reduceMul, Nat.reduceLT, Nat.reduceBEq, Nat.reduceLeDiff, Nat.reduceSub] -- r4
    refine ITri.cond (v := false) rfl (fun h => by cases h) (fun _ => ?_); refine ITri.skip ?_; simp only [SeqQ_normal, BlkQ_normal]
    refine ITri.reg pok ?_; simp -implicitDefEqProofs (disch := first | decide | exact of_eq_true (eq_true rfl) | omega | assumption) only [hi1,  ↓vcD, vcE, ↓vcG, vcF, evs, evP, evB, intsOf, fillC, Value.cells, pt, Value.oneCell', reduceIte, reduceCtorEq, Nat.reduceEqDiff, Nat.reduceAdd, Nat.reduceMul, Nat.reduceLT, Nat.reduceBEq, Nat.reduceLeDiff, Nat.reduceSub] -- r6
    refine LoopQ.next ⟨i + 1, M2⟩ ⟨by show i + 1 ≤ 6; omega, q1, q2, fun h => ?_⟩ (by show 6 - (i + 1) < 6 - i; omega) (Wk.sub ⟨rfl, rfl, rfl, rfl, trivial⟩)
    have h : 3 < i + 1 := h
    by_cases h3 : i = 3
    · exact k3 h3 c1 c2
    · exact h4 (by omega)
  refine ITri.exit ?_; try simp -implicitDefEqProofs (disch := first | decide | exact of_eq_true (eq_true rfl) | omega | assumption) only [ ↓vcD, vcE, ↓vcG, vcF, evs, evP, evB, intsOf, fillC, Value.cells, pt, Value.oneCell', reduceIte, reduceCtorEq, Nat.reduceEqDiff, Nat.reduceAdd, Nat.reduceMul, Nat.reduceLT, Nat.reduceBEq, Nat.reduceLeDiff, Nat.reduceSub] -- exit 0
  have w12 : (wafT a b)[12]? = some (.int .u8 1) := rfl
  have s12 : (specT tl th)[12]? = some (.int .u8 31) := rfl
  have hq : btI .andNot .u8 1 31 = 0 := by kernel_rfl
  obtain rfl : r = -1 := by rw [hr, if_pos (h4 (by omega))]
  refine ITri.seq ?_
  refine ITri.seq ?_
  refine ITri.reg pok ?_; simp -implicitDefEqProofs (disch := first | decide | exact of_eq_true (eq_true rfl) | omega | assumption) only [h2, h3, w12, s12, hq, decide_true, Bool.not_true,  ↓vcD, vcE, ↓vcG, vcF, evs, evP, evB, intsOf, fillC, Value.cells, pt, Value.oneCell', reduceIte, reduceCtorEq, Nat.reduceEqDiff, Nat.reduceAdd, Nat.reduceMul, Nat.reduceLT, Nat.reduceBEq, Nat.reduceLeDiff, Nat.reduceSub] -- r7
  refine ITri.cond (v := false) rfl (fun h => by cases h) (fun _ => ?_); refine ITri.skip ?_; simp only [SeqQ_normal, BlkQ_normal]
  refine ITri.seq ?_
  refine ITri.reg pok ?_; simp -implicitDefEqProofs (disch := first | decide | exact of_eq_true (eq_true rfl) | omega | assumption) only [ ↓vcD, vcE, ↓vcG, vcF, evs, evP, evB, intsOf, fillC, Value.cells, pt, Value.oneCell', reduceIte, reduceCtorEq, Nat.reduceEqDiff, Nat.reduceAdd, Nat.reduceMul, Nat.reduceLT, Nat.reduceBEq, Nat.reduceLeDiff, Nat.reduceSub] -- r9
  refine ITri.ret ?_; exact EndR.plain (by simp) (by rfl) (by rfl) (by rfl)
set_option maxHeartbeats 1000000 in
theorem never_c {r : Bool} (hr : r = decide (b < tl ∨ a > th)) : Fc Tryd.prog 23 [.agg ⟨specT tl th⟩, .agg ⟨wafT a b⟩] (Hp 1 [none]) (.bool r) (Hp 1 [none]) := by
  refine Fc.intro0 fn23 (by simp) rfl rfl ?_; simp only [argF]
  have hT : takeC (wafT a b) 0 12 = some (zerT a b) := rfl
  refine ITri.seq ?_
  refine ITri.reg pok ?_; simp -implicitDefEqProofs (disch := first | decide | exact of_eq_true (eq_true rfl) | omega | assumption) only [ ↓vcD, vcE, ↓vcG, vcF, evs, evP, evB, intsOf, fillC, Value.cells, pt, Value.oneCell', reduceIte, reduceCtorEq, Nat.reduceEqDiff, Nat.reduceAdd, Nat.reduceMul, Nat.reduceLT, Nat.reduceBEq, Nat.reduceLeDiff, Nat.reduceSub] -- r0
  refine ITri.seq ?_
  refine ITri.seq ?_
  refine ITri.reg pok ?_; simp -implicitDefEqProofs (disch := first | decide | exact of_eq_true (eq_true rfl) | omega | assumption) only [hT,  ↓vcD, vcE, ↓vcG, vcF, evs, evP, evB, intsOf, fillC, Value.cells, pt, Value.oneCell', reduceIte, reduceCtorEq, Nat.reduceEqDiff, Nat.reduceAdd, Nat.reduceMul, Nat.reduceLT, Nat.reduceBEq, Nat.reduceLeDiff, Nat.reduceSub] -- r1
  refine ITri.block ?_ -- 0
  refine ITri.loop (fun x : FS => [(2, pt 1), (3, pt 2), (8, .agg ⟨zerT a b⟩), (9, .int .i64 x.i)]) (fun _ => []) (fun x => Hp 1 x.M) (FI tl th a b (¬ (b < tl ∨ a > th))) (fun x => 6 - x.i) ⟨0, [none, speO tl th, wafO a b]⟩ ⟨Nat.zero_le _, rfl, rfl, fun h => absurd (show 3 < 0 from h) (by decide)⟩ (Wk.sub ⟨rfl, rfl, rfl, rfl, trivial⟩) fun x hx => ?_
  obtain ⟨i, M⟩ := x
  obtain ⟨h1, h2, h3, h4⟩ := hx
  simp only at h1 h2 h3 h4
  refine ITri.seq ?_
  refine ITri.reg pok ?_; simp -implicitDefEqProofs (disch := first | decide | exact of_eq_true (eq_true rfl) | omega | assumption) only [ ↓vcD, vcE, ↓vcG, vcF, evs, evP, evB, intsOf, fillC, Value.cells, pt, Value.oneCell', reduceIte, reduceCtorEq, Nat.reduceEqDiff, Nat.reduceAdd, Nat.reduceMul, Nat.reduceLT, Nat.reduceBEq, Nat.reduceLeDiff, Nat.reduceSub] -- r2
  refine ITri.seq ?_
  refine ITri.condD (by rfl) (fun hi => ?_) (fun hi => ?_) -- %10
  · have hi6 : i < 6 := by omega
    have e0 := idx_zer a b i hi6
    have e1 := sp_lo tl th i hi6
    have e2 := sp_hi tl th i hi6
    have hi1 : (i : Int) + 1 = ((i + 1 : Nat) : Int) := by omega
    have k1 : vF b 0 i < vF tl (-1000000000000000) i → i = 3 ∧ b < tl := fun h => by
      unfold vF at h
      by_cases h3 : i = 3
      · rw [if_pos h3, if_pos h3] at h; exact ⟨h3, h⟩
      · rw [if_neg h3, if_neg h3] at h; exact absurd h (by decide)
    have k2 : vF a 0 i > vF th 1000000000000000 i → i = 3 ∧ a > th := fun h => by
      unfold vF at h
      by_cases h3 : i = 3
      · rw [if_pos h3, if_pos h3] at h; exact ⟨h3, h⟩
      · rw [if_neg h3, if_neg h3] at h; exact absurd h (by decide)
    have k3 : i = 3 → ¬ vF b 0 i < vF tl (-1000000000000000) i → ¬ vF a 0 i > vF th 1000000000000000 i → ¬ (b < tl ∨ a > th) := fun h u v => by
      subst h
      have u : ¬ b < tl := u
      have v : ¬ a > th := v
      omega
    generalize vF a 0 i = x1 at *
    generalize vF b 0 i = x2 at *
    generalize vF tl (-1000000000000000) i = y1 at *
    generalize vF th 1000000000000000 i = y2 at *
    have hl := get_lt h3
    have hl1 : 1 ≤ M.length := by omega
    obtain ⟨M2, hM2⟩ : ∃ M2, M ++ [some (AObj.cells ⟨[.int .i64 x1, .int .i64 x2], 1, false⟩)] = M2 := ⟨_, rfl⟩
    have q1 : M2[1]? = some (speO tl th) := by rw [← hM2, List.getElem?_append_left (by omega)]; exact h2
    have q2 : M2[2]? = some (wafO a b) := by rw [← hM2, List.getElem?_append_left (by omega)]; exact h3
    have q3 : M2[M.length]? = some (some (AObj.cells ⟨[.int .i64 x1, .int .i64 x2], 1, false⟩)) := by
      rw [← hM2, List.getElem?_append_right (Nat.le_refl _), Nat.sub_self]
      rfl
    refine ITri.skip ?_; simp only [SeqQ_normal, BlkQ_normal]
    refine ITri.seq ?_
    refine ITri.block ?_ -- 1
    refine ITri.seq ?_
    refine ITri.reg pok ?_; simp -implicitDefEqProofs (disch := first | decide | exact of_eq_true (eq_true rfl) | omega | assumption) only [ ↓vcD, vcE, ↓vcG, vcF, evs, evP, evB, intsOf, fillC, Value.cells, pt, Value.oneCell', reduceIte, reduceCtorEq, Nat.reduceEqDiff, Nat.reduceAdd, Nat.reduceMul, Nat.reduceLT, Nat.reduceBEq, Nat.reduceLeDiff, Nat.reduceSub] -- r3
    refine gen_idx rfl rfl e0 ?_
    simp -implicitDefEqProofs (disch := first | decide | exact of_eq_true (eq_true rfl) | omega | assumption) only [apd_get, apd_get0, apd_set0, apd_set, List.length_append, List.append_assoc, Nat.add_assoc, hl1,  ↓vcD, vcE, ↓vcG, vcF, evs, evP, evB, intsOf, fillC, Value.cells, pt, Value.oneCell', reduceIte, reduceCtorEq, Nat.reduceEqDiff, Nat.reduceAdd, Nat.reduceMul, Nat.reduceLT, Nat.reduceBEq, Nat.reduceLeDiff, Nat.reduceSub]
    rw [hM2]
    refine ITri.seq ?_
    by_cases c1 : x2 < y1
    · obtain ⟨rfl, c⟩ := k1 c1
      obtain rfl : r = true := by rw [hr, decide_eq_true (.inl c)]
      refine ITri.draw pok ?_; simp -implicitDefEqProofs (disch := first | decide | exact of_eq_true (eq_true rfl) | omega | assumption) only [q1, q2, q3, e1, e2, c1, decide_true,  ↓vcD, vcE, ↓vcG, vcF, evs, evP, evB, intsOf, fillC, Value.cells, pt, Value.oneCell', reduceIte, reduceCtorEq, Nat.reduceEqDiff, Nat.reduceAdd, Nat.reduceMul, Nat.reduceLT, Nat.reduceBEq, Nat.reduceLeDiff, Nat.reduceSub] -- r4
      refine ITri.cond (v := true) rfl (fun _ => ?_) (fun h => by cases h)
      refine ITri.seq ?_
      refine ITri.reg pok ?_; simp -implicitDefEqProofs (disch := first | decide | exact of_eq_true (eq_true rfl) | omega | assumption) only [ ↓vcD, vcE, ↓vcG, vcF, evs, evP, evB, intsOf, fillC, Value.cells, pt, Value.oneCell', reduceIte, reduceCtorEq, Nat.reduceEqDiff, Nat.reduceAdd, Nat.reduceMul, Nat.reduceLT, Nat.reduceBEq, Nat.reduceLeDiff, Nat.reduceSub] -- r5
      refine ITri.ret ?_; exact EndR.plain (by simp) (by rfl) (by rfl) (by rfl)
    by_cases c2 : x1 > y2
    · obtain ⟨rfl, c⟩ := k2 c2
      obtain rfl : r = true := by rw [hr, decide_eq_true (.inr c)]
      refine ITri.draw pok ?_; simp -implicitDefEqProofs (disch := first | decide | exact of_eq_true (eq_true rfl) | omega | assumption) only [q1, q2, q3, e1, e2, c1, c2, decide_true, decide_false,  ↓vcD, vcE, ↓vcG, vcF, evs, evP, evB, intsOf, fillC, Value.cells, pt, Value.oneCell', reduceIte, reduceCtorEq, Nat.reduceEqDiff, Nat.reduceAdd, Nat.reduceMul, Nat.reduceLT, Nat.reduceBEq, Nat.reduceLeDiff, Nat.reduceSub] -- r4
      refine ITri.cond (v := true) rfl (fun _ => ?_) (fun h => by cases h)
      refine ITri.seq ?_
      refine ITri.reg pok ?_; simp -implicitDefEqProofs (disch := first | decide | exact of_eq_true (eq_true rfl) | omega | assumption) only [ ↓vcD, vcE, ↓vcG, vcF, evs, evP, evB, intsOf, fillC, Value.cells, pt, Value.oneCell', reduceIte, reduceCtorEq, Nat.reduceEqDiff, Nat.reduceAdd, Nat.reduceMul, Nat.reduceLT, Nat.reduceBEq, Nat.reduceLeDiff, Nat.reduceSub] -- r5
      refine ITri.ret ?_; exact EndR.plain (by simp) (by rfl) (by rfl) (by rfl)
    refine ITri.draw pok ?_; simp -implicitDefEqProofs (disch := first | decide | exact of_eq_true (eq_true rfl) | omega | assumption) only [q1, q2, q3, e1, e2, c1, c2, decide_false,  ↓vcD, vcE, ↓vcG, vcF, evs, evP, evB, intsOf, fillC, Value.cells, pt, Value.oneCell', reduceIte, reduceCtorEq, Nat.reduceEqDiff, Nat.reduceAdd, Nat.reduceMul, Nat.reduceLT, Nat.reduceBEq, Nat.reduceLeDiff, Nat.reduceSub] -- r4
    refine ITri.cond (v := false) rfl (fun h => by cases h) (fun _ => ?_); refine ITri.skip ?_; simp only [SeqQ_normal, BlkQ_normal]
    refine ITri.reg pok ?_; simp -implicitDefEqProofs (disch := first | decide | exact of_eq_true (eq_true rfl) | omega | assumption) only [hi1,  ↓vcD, vcE, ↓vcG, vcF, evs, evP, evB, intsOf, fillC, Value.cells, pt, Value.oneCell', reduceIte, reduceCtorEq, Nat.reduceEqDiff, Nat.reduceAdd, Nat.reduceMul, Nat.reduceLT, Nat.reduceBEq, Nat.reduceLeDiff, Nat.reduceSub] -- r6
    refine LoopQ.next ⟨i + 1, M2⟩ ⟨by show i + 1 ≤ 6; omega, q1, q2, fun h => ?_⟩ (by show 6 - (i + 1) < 6 - i; omega) (Wk.sub ⟨rfl, rfl, rfl, rfl, trivial⟩)
    have h : 3 < i + 1 := h
    by_cases h3 : i = 3
    · exact k3 h3 c1 c2
    · exact h4 (by omega)
  refine ITri.exit ?_; try simp -implicitDefEqProofs (disch := first | decide | exact of_eq_true (eq_true rfl) | omega | assumption) only [ ↓vcD, vcE, ↓vcG, vcF, evs, evP, evB, intsOf, fillC, Value.cells, pt, Value.oneCell', reduceIte, reduceCtorEq, Nat.reduceEqDiff, Nat.reduceAdd, Nat.reduceMul, Nat.reduceLT, Nat.reduceBEq, Nat.reduceLeDiff, Nat.reduceSub] -- exit 0
  have w12 : (wafT a b)[12]? = some (.int .u8 1) := rfl
  have s12 : (specT tl th)[12]? = some (.int .u8 31) := rfl
  have hq : ¬ btI .and .u8 1 31 = 0 := by decide
  obtain rfl : r = false := by rw [hr, decide_eq_false (h4 (by omega))]
  refine ITri.seq ?_
  refine ITri.reg pok ?_; simp -implicitDefEqProofs (disch := first | decide | exact of_eq_true (eq_true rfl) | omega | assumption) only [h2, h3, w12, s12, hq, decide_false,  ↓vcD, vcE, ↓vcG, vcF, evs, evP, evB, intsOf, fillC, Value.cells, pt, Value.oneCell', reduceIte, reduceCtorEq, Nat.reduceEqDiff, Nat.reduceAdd, Nat.reduceMul, Nat.reduceLT, Nat.reduceBEq, Nat.reduceLeDiff, Nat.reduceSub] -- r7
  refine ITri.ret ?_; exact EndR.plain (by simp) (by rfl) (by rfl) (by rfl)
theorem tk_spec : takeC (specT tl th) 0 13 = some (specT tl th) := rfl
theorem tk_waf : takeC (wafT a b) 0 19 = some (wafT a b) := rfl
/-- The grade of a wafer. -/
def pgI (tl th a b : Int) : Int := if a ≥ tl ∧ b ≤ th then 1 else if b < tl ∨ a > th then 3 else 2
theorem passes_c (ot : okR tl th) (ow : okR a b) {g : Int} (hg : g = pgI tl th a b) : Fc Tryd.prog 10 [.agg ⟨specT tl th⟩, .agg ⟨wafT a b⟩] (Hp 1 [none]) (.tuple #[.int .u8 g, .int .i64 0]) (Hp 1 [none]) := by
  refine Fc.intro0 fn10 (by simp) rfl rfl ?_; simp only [argF]
  refine ITri.seq ?_
  refine ITri.reg pok ?_; simp -implicitDefEqProofs (disch := first | decide | exact of_eq_true (eq_true rfl) | omega | assumption) only [ ↓vcD, vcE, ↓vcG, vcF, evs, evP, evB, intsOf, fillC, Value.cells, pt, Value.oneCell', reduceIte, reduceCtorEq, Nat.reduceEqDiff, Nat.reduceAdd, Nat.reduceMul, Nat.reduceLT, Nat.reduceBEq, Nat.reduceLeDiff, Nat.reduceSub] -- r0
  refine ITri.seq ?_
  refine ITri.block ?_ -- 0
  refine ITri.seq ?_
  refine ITri.reg pok ?_; simp -implicitDefEqProofs (disch := first | decide | exact of_eq_true (eq_true rfl) | omega | assumption) only [@tk_spec tl th, @tk_waf a b,  ↓vcD, vcE, ↓vcG, vcF, evs, evP, evB, intsOf, fillC, Value.cells, pt, Value.oneCell', reduceIte, reduceCtorEq, Nat.reduceEqDiff, Nat.reduceAdd, Nat.reduceMul, Nat.reduceLT, Nat.reduceBEq, Nat.reduceLeDiff, Nat.reduceSub] -- r1
  refine ⟨_, _, isSpec_f ot (sees0 rfl (of_decide_eq_true rfl)), ?_⟩
  simp -implicitDefEqProofs (disch := first | decide | exact of_eq_true (eq_true rfl) | omega | assumption) only [@tk_waf a b, Bool.not_true,  ↓vcD, vcE, ↓vcG, vcF, evs, evP, evB, intsOf, fillC, Value.cells, pt, Value.oneCell', reduceIte, reduceCtorEq, Nat.reduceEqDiff, Nat.reduceAdd, Nat.reduceMul, Nat.reduceLT, Nat.reduceBEq, Nat.reduceLeDiff, Nat.reduceSub]
  refine ⟨_, _, isWafer_f ow (sees0 rfl (of_decide_eq_true rfl)), ?_⟩
  simp -implicitDefEqProofs (disch := first | decide | exact of_eq_true (eq_true rfl) | omega | assumption) only [Bool.not_true,  ↓vcD, vcE, ↓vcG, vcF, evs, evP, evB, intsOf, fillC, Value.cells, pt, Value.oneCell', reduceIte, reduceCtorEq, Nat.reduceEqDiff, Nat.reduceAdd, Nat.reduceMul, Nat.reduceLT, Nat.reduceBEq, Nat.reduceLeDiff, Nat.reduceSub]
  refine ITri.cond (v := false) rfl (fun h => by cases h) (fun _ => ?_)
  refine ITri.seq ?_
  refine ITri.reg pok ?_; simp -implicitDefEqProofs (disch := first | decide | exact of_eq_true (eq_true rfl) | omega | assumption) only [@tk_spec tl th, @tk_waf a b,  ↓vcD, vcE, ↓vcG, vcF, evs, evP, evB, intsOf, fillC, Value.cells, pt, Value.oneCell', reduceIte, reduceCtorEq, Nat.reduceEqDiff, Nat.reduceAdd, Nat.reduceMul, Nat.reduceLT, Nat.reduceBEq, Nat.reduceLeDiff, Nat.reduceSub] -- r3
  refine ⟨_, _, Fc.lift0 (fault_c (tl := tl) (th := th) (a := a) (b := b) rfl) rfl rfl (sees0 rfl (of_decide_eq_true rfl)), ?_⟩
  by_cases hz : a ≥ tl ∧ b ≤ th
  · obtain rfl : g = 1 := by rw [hg]; exact if_pos hz
    have hn : (-1 : Int) < 0 := by decide
    rw [if_pos hz]
    simp -implicitDefEqProofs (disch := first | decide | exact of_eq_true (eq_true rfl) | omega | assumption) only [hn, decide_true,  ↓vcD, vcE, ↓vcG, vcF, evs, evP, evB, intsOf, fillC, Value.cells, pt, Value.oneCell', reduceIte, reduceCtorEq, Nat.reduceEqDiff, Nat.reduceAdd, Nat.reduceMul, Nat.reduceLT, Nat.reduceBEq, Nat.reduceLeDiff, Nat.reduceSub]
    refine ITri.cond (v := true) rfl (fun _ => ?_) (fun h => by cases h)
    refine ITri.seq ?_
    refine ITri.reg pok ?_; simp -implicitDefEqProofs (disch := first | decide | exact of_eq_true (eq_true rfl) | omega | assumption) only [ ↓vcD, vcE, ↓vcG, vcF, evs, evP, evB, intsOf, fillC, Value.cells, pt, Value.oneCell', reduceIte, reduceCtorEq, Nat.reduceEqDiff, Nat.reduceAdd, Nat.reduceMul, Nat.reduceLT, Nat.reduceBEq, Nat.reduceLeDiff, Nat.reduceSub] -- r4
    refine ITri.ret ?_; exact EndR.plain (by simp) (by rfl) (by rfl) (by rfl)
  have hn : ¬ (3 : Int) < 0 := by decide
  rw [if_neg hz]
  simp -implicitDefEqProofs (disch := first | decide | exact of_eq_true (eq_true rfl) | omega | assumption) only [hn, decide_false,  ↓vcD, vcE, ↓vcG, vcF, evs, evP, evB, intsOf, fillC, Value.cells, pt, Value.oneCell', reduceIte, reduceCtorEq, Nat.reduceEqDiff, Nat.reduceAdd, Nat.reduceMul, Nat.reduceLT, Nat.reduceBEq, Nat.reduceLeDiff, Nat.reduceSub]
  refine ITri.cond (v := false) rfl (fun h => by cases h) (fun _ => ?_)
  refine ITri.seq ?_
  refine ITri.reg pok ?_; simp -implicitDefEqProofs (disch := first | decide | exact of_eq_true (eq_true rfl) | omega | assumption) only [@tk_spec tl th, @tk_waf a b,  ↓vcD, vcE, ↓vcG, vcF, evs, evP, evB, intsOf, fillC, Value.cells, pt, Value.oneCell', reduceIte, reduceCtorEq, Nat.reduceEqDiff, Nat.reduceAdd, Nat.reduceMul, Nat.reduceLT, Nat.reduceBEq, Nat.reduceLeDiff, Nat.reduceSub] -- r5
  refine ⟨_, _, Fc.lift0 (never_c (tl := tl) (th := th) (a := a) (b := b) rfl) rfl rfl (sees0 rfl (of_decide_eq_true rfl)), ?_⟩
  by_cases h0 : b < tl ∨ a > th
  · obtain rfl : g = 3 := by rw [hg]; unfold pgI; rw [if_neg hz, if_pos h0]
    rw [decide_eq_true h0]
    try simp -implicitDefEqProofs (disch := first | decide | exact of_eq_true (eq_true rfl) | omega | assumption) only [ ↓vcD, vcE, ↓vcG, vcF, evs, evP, evB, intsOf, fillC, Value.cells, pt, Value.oneCell', reduceIte, reduceCtorEq, Nat.reduceEqDiff, Nat.reduceAdd, Nat.reduceMul, Nat.reduceLT, Nat.reduceBEq, Nat.reduceLeDiff, Nat.reduceSub]
    refine ITri.cond (v := true) rfl (fun _ => ?_) (fun h => by cases h)
    refine ITri.seq ?_
    refine ITri.reg pok ?_; simp -implicitDefEqProofs (disch := first | decide | exact of_eq_true (eq_true rfl) | omega | assumption) only [ ↓vcD, vcE, ↓vcG, vcF, evs, evP, evB, intsOf, fillC, Value.cells, pt, Value.oneCell', reduceIte, reduceCtorEq, Nat.reduceEqDiff, Nat.reduceAdd, Nat.reduceMul, Nat.reduceLT, Nat.reduceBEq, Nat.reduceLeDiff, Nat.reduceSub] -- r6
    refine ITri.ret ?_; exact EndR.plain (by simp) (by rfl) (by rfl) (by rfl)
  · obtain rfl : g = 2 := by rw [hg]; unfold pgI; rw [if_neg hz, if_neg h0]
    rw [decide_eq_false h0]
    try simp -implicitDefEqProofs (disch := first | decide | exact of_eq_true (eq_true rfl) | omega | assumption) only [ ↓vcD, vcE, ↓vcG, vcF, evs, evP, evB, intsOf, fillC, Value.cells, pt, Value.oneCell', reduceIte, reduceCtorEq, Nat.reduceEqDiff, Nat.reduceAdd, Nat.reduceMul, Nat.reduceLT, Nat.reduceBEq, Nat.reduceLeDiff, Nat.reduceSub]
    refine ITri.cond (v := false) rfl (fun h => by cases h) (fun _ => ?_); refine ITri.skip ?_; simp only [SeqQ_normal, BlkQ_normal]
    refine ITri.seq ?_
    refine ITri.reg pok ?_; simp -implicitDefEqProofs (disch := first | decide | exact of_eq_true (eq_true rfl) | omega | assumption) only [ ↓vcD, vcE, ↓vcG, vcF, evs, evP, evB, intsOf, fillC, Value.cells, pt, Value.oneCell', reduceIte, reduceCtorEq, Nat.reduceEqDiff, Nat.reduceAdd, Nat.reduceMul, Nat.reduceLT, Nat.reduceBEq, Nat.reduceLeDiff, Nat.reduceSub] -- r7
    refine ITri.ret ?_; exact EndR.plain (by simp) (by rfl) (by rfl) (by rfl)
theorem passes_f (ot : okR tl th) (ow : okR a b) {h : AH} (h0 : h.sees 0 = true) : Fc Tryd.prog 10 [.agg ⟨specT tl th⟩, .agg ⟨wafT a b⟩] h (.tuple #[.int .u8 (pgI tl th a b), .int .i64 0]) h := Fc.lift0 (passes_c ot ow rfl) rfl rfl h0
end
end Go.Proofs.YtjfgbdmdnejhdaaDoor
