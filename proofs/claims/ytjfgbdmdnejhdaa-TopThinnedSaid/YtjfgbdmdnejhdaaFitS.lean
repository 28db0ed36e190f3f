/-
  Chapters 8 to 10 at the top: slice.Predict, by names.
-/
import Derived.Test.YtjfgbdmdnejhdaaFitR
import Derived.Test.YtjfgbdmdnejhdaaFitN
set_option linter.unusedSimpArgs false
set_option linter.unusedVariables false
namespace Go.Vm
open Go Go.RowKit
/-- A value made of a slice. -/
structure MvV (mk : Value → Value) : Prop where
  mv : ∀ σ ξ s, Vm.mv σ ξ (mk s) = mk (Vm.mv σ ξ s)
  ok : ∀ ξ B s, okM ξ B s → okM ξ B (mk s)
section
variable {P : Program} {rs : List ResultVar} {l : Fr} {L : List (Option AObj)} {k n b sz : Nat} {cs : List Value} {vs : List Value} {mk : Value → Value} {op : Bool}
/-- How a function ends that returns one of its own rows with open room. -/
theorem end_mk (hmk : MvV mk) (hk : b ≤ k) (hno : noAddrL cs = true) (hL : (L[k]?).join = some (.cells ⟨cs, sz, true⟩)) (hr : resF P l (Hp b L) rs = some vs) (hv : packV vs = mk (.slice (some ⟨k, 0, none⟩) n openB)) :
    EndR P rs b [.cells ⟨cs, sz, true⟩] (mk (.slice (some ⟨b, 0, none⟩) n openB)) .ret l [] (Hp b L) := by
  refine ⟨by simp, rfl, vs, [k], [], hr, rfl, by simp, by simpa using hk, (fun p hp => by cases hp), ?_, hmk.ok _ _ _ ?_, fun i o2 h => .inr ?_⟩
  · rw [hv, hmk.mv]
    congr 1
    show _ = mvS .same ⟨(fun k' => if k' < b then k' else [k].getD (k' - b) 0) b, 0, none⟩ n openB
    simp [mvS]
  · exact ⟨by simp, trivial⟩
  · match i, h with
    | 0, h =>
      cases h
      refine ⟨(by intro e; cases e), _, (by show (Hp b L).get k = _; rw [Hp_get]; exact hL), ?_⟩
      exact ⟨(mvL_noAddr _ _ _ hno).symm, okML_noAddr _ _ _ hno, fun e => e, fun e => ⟨e, rfl⟩⟩
/-- The same where it returns nil. -/
theorem end_nil (hmk : MvV mk) (hr : resF P l (Hp b L) rs = some vs) (hv : packV vs = mk (.slice none 0 0)) :
    EndR P rs b [.cells ⟨[], sz, true⟩] (mk (.slice (some ⟨b, 0, none⟩) 0 openB)) .ret l [] (Hp b L) := by
  refine ⟨by simp, rfl, vs, [b], [(b, .nil)], hr, rfl, by simp, by simp, (fun p hp => by simp at hp; subst hp; exact ⟨Nat.le_refl _, trivial⟩), ?_, hmk.ok _ _ _ ?_, fun i o2 h => .inl ?_⟩
  · rw [hv, hmk.mv]
    congr 1
    show _ = mvS (xiL [(b, .nil)] b) _ 0 openB
    simp [mvS, xiL]
  · refine ⟨by show b < b + 1; omega, ?_⟩
    show okS (xiL [(b, .nil)] b) 0 openB
    simp [xiL, okS]
  · match i, h with
    | 0, h =>
      cases h
      exact ⟨by simp [xiL], rfl⟩
end
theorem cells_all {wl k sz m : Nat} {op : Bool} {M : List (Option AObj)} {cs : List Value} (h : M[k]? = some (some (.cells ⟨cs, sz, op⟩))) (hl : cs.length = m) : cellsAt (Hp wl M) k 0 m = some cs := by
  unfold cellsAt
  rw [show (Hp wl M).get k = some (.cells ⟨cs, sz, op⟩) from get_hq rfl (by rw [h]; rfl)]
  simp only [List.drop_zero, List.take_of_length_le (show cs.length ≤ m by omega)]
  exact if_pos (by omega)
theorem set_id {α : Type} {L : List α} {k : Nat} {x : α} (h : L[k]? = some x) : L.set k x = L := by
  apply List.ext_getElem?
  intro j
  rw [List.getElem?_set]
  split
  · rename_i e
    subst e
    rw [if_pos (List.getElem?_eq_some_iff.1 h).1, h]
  · rfl
end Go.Vm
namespace Go.Proofs.Ytjfgbdmdnejhdaa
open Go.RowKit Go.Vm
set_option maxRecDepth 100000
def pairs (a b : List Int) : Nat → List Value
  | 0 => []
  | i + 1 => pairs a b i ++ [.int .i64 (nth a i), .int .i64 (nth b i)]
theorem pairs_len (a b : List Int) : ∀ i, (pairs a b i).length = i * 2
  | 0 => rfl
  | i + 1 => by
    show (pairs a b i ++ _).length = _
    rw [List.length_append, pairs_len a b i]
    show i * 2 + 2 = _
    omega
theorem pairs_no (a b : List Int) : ∀ i, noAddrL (pairs a b i) = true
  | 0 => rfl
  | i + 1 => by
    show noAddrL (pairs a b i ++ _) = true
    rw [noAddrL_append, pairs_no a b i]
    rfl
/- boule/slice.Predict · slots 105 · names 0:w 1:b 2:length 3:w 4:b 5:length 8:e 9:s 10:wide 11:most 12:above 13:narrow 14:least 15:below 16:x 17:i · results [6, 7] -/
def ir5_r0 : IC := .reg [⟨some 3, none, false, .box (.t 0)⟩,
  ⟨some 4, none, false, .box (.t 1)⟩,
  ⟨some 6, none, false, .alloc [(.slice none 0 0), (.int .i64 0), (.int .i64 0), (.int .i64 0), (.int .i64 0), (.int .i64 0), (.int .i64 0), (.int .u8 0)]⟩,
  ⟨some 7, none, false, .mv (.k (.int .i64 0))⟩] (some [2, 3, 4, 6])
def ir5_r1 : IC := .reg [⟨some 18, none, false, .lda 5 (.t 3)⟩,
  ⟨some 19, none, false, .lda 5 (.t 4)⟩,
  ⟨some 20, none, false, .mv (.t 2)⟩,
  ⟨some 21, none, false, .call (.f 16) [(.t 18), (.t 19), (.t 20)]⟩,
  ⟨some 8, none, false, .mv (.t 21)⟩] (some [2, 3, 4, 6, 8])
def ir5_r2 : IC := .reg [⟨some 22, none, false, .mv (.t 8)⟩,
  ⟨some 23, none, false, .cmp .neq (.t 22) (.k (.int .i64 0))⟩] (some [2, 3, 4, 6, 8, 23])
def ir5_r3 : IC := .reg [⟨some 24, none, false, .bld [(.slice none 0 0), (.int .i64 0), (.int .i64 0), (.int .i64 0), (.int .i64 0), (.int .i64 0), (.int .i64 0), (.int .u8 0)] []⟩,
  ⟨some 25, none, false, .mv (.t 8)⟩,
  ⟨none, none, false, .st 8 (.t 6) (.t 24)⟩,
  ⟨some 7, none, false, .mv (.t 25)⟩] (some [6, 7])
def ir5_1 : IC := .seq ir5_r3 .ret
def ir5_2 : IC := .cond (.t 23) ir5_1 .skip
def ir5_3 : IC := .seq ir5_r2 ir5_2
def ir5_4 : IC := .seq ir5_r1 ir5_3
def ir5_r4 : IC := .reg [⟨some 26, none, false, .lda 5 (.t 3)⟩,
  ⟨some 27, none, false, .lda 5 (.t 4)⟩,
  ⟨some 28, none, false, .mv (.t 2)⟩,
  ⟨some 29, none, false, .bld [(.int .i64 0), (.int .i64 0), (.int .i64 0), (.int .i64 0), (.int .i64 0), (.int .i64 0), (.int .i64 0), (.int .i64 0), (.int .i64 0), (.int .i64 0), (.int .i64 0)] [(0, 5, (.t 26)), (5, 5, (.t 27)), (10, 1, (.t 28))]⟩,
  ⟨some 9, none, false, .alloc [(.int .i64 0), (.int .i64 0), (.int .i64 0), (.int .i64 0), (.int .i64 0), (.int .i64 0), (.int .i64 0), (.int .i64 0), (.int .i64 0), (.int .i64 0), (.int .i64 0)]⟩,
  ⟨none, none, false, .st 11 (.t 9) (.t 29)⟩] (some [3, 6, 9])
def ir5_r5 : IC := .reg [⟨some 31, none, false, .lda 11 (.t 9)⟩,
  ⟨some 32, none, false, .call (.f 17) [(.t 31)]⟩,
  ⟨some 30, none, false, .mv (.t 32)⟩,
  ⟨some 33, none, false, .ext (.t 30) 0⟩,
  ⟨some 34, none, false, .ext (.t 30) 1⟩,
  ⟨some 35, none, false, .ext (.t 30) 2⟩,
  ⟨some 10, none, false, .alloc [(.slice none 0 0), (.slice none 0 0), (.int .i64 0), (.int .i64 0)]⟩,
  ⟨none, none, false, .st 4 (.t 10) (.t 33)⟩,
  ⟨some 11, none, false, .mv (.t 34)⟩,
  ⟨some 12, none, false, .mv (.t 35)⟩] (some [3, 6, 9, 10, 11, 12])
def ir5_r6 : IC := .reg [⟨some 37, none, false, .lda 11 (.t 9)⟩,
  ⟨some 38, none, false, .call (.f 18) [(.t 37)]⟩,
  ⟨some 36, none, false, .mv (.t 38)⟩,
  ⟨some 39, none, false, .ext (.t 36) 0⟩,
  ⟨some 40, none, false, .ext (.t 36) 1⟩,
  ⟨some 41, none, false, .ext (.t 36) 2⟩,
  ⟨some 13, none, false, .alloc [(.slice none 0 0), (.slice none 0 0), (.int .i64 0), (.int .i64 0)]⟩,
  ⟨none, none, false, .st 4 (.t 13) (.t 39)⟩,
  ⟨some 14, none, false, .mv (.t 40)⟩,
  ⟨some 15, none, false, .mv (.t 41)⟩] (some [3, 6, 9, 10, 11, 12, 13, 14, 15])
def ir5_r7 : IC := .draw [(⟨some 42, none, false, .fad 1 (.t 13)⟩, false, 0, 0),
  (⟨some 43, none, false, .ldc (.t 42)⟩, false, 1, 1),
  (⟨some 44, none, false, .call (.f 19) [(.t 43)]⟩, false, 3, 1),
  (⟨some 45, none, false, .fad 1 (.t 10)⟩, false, 0, 0),
  (⟨some 46, none, false, .ldc (.t 45)⟩, false, 8, 4),
  (⟨some 47, none, false, .call (.f 19) [(.t 46)]⟩, false, 31, 1),
  (⟨some 48, none, false, .bld [(.int .i64 0), (.int .i64 0)] [(0, 1, (.t 44)), (1, 1, (.t 47))]⟩, false, 63, 0),
  (⟨some 49, none, false, .fad 2 (.t 10)⟩, false, 0, 0),
  (⟨some 50, none, false, .ldc (.t 49)⟩, false, 128, 32),
  (⟨some 51, none, false, .fad 3 (.t 10)⟩, false, 0, 0),
  (⟨some 52, none, false, .ldc (.t 51)⟩, false, 512, 160),
  (⟨some 53, none, false, .ar .add (.t 50) (.t 52)⟩, false, 1920, 0),
  (⟨some 54, none, false, .fad 2 (.t 13)⟩, false, 0, 0),
  (⟨some 55, none, false, .ldc (.t 54)⟩, false, 4096, 672),
  (⟨some 56, none, false, .fad 3 (.t 13)⟩, false, 0, 0),
  (⟨some 57, none, false, .ldc (.t 56)⟩, false, 16384, 4768),
  (⟨some 58, none, false, .ar .add (.t 55) (.t 57)⟩, false, 61440, 0),
  (⟨some 59, none, false, .bld [(.int .i64 0), (.int .i64 0)] [(0, 1, (.t 53)), (1, 1, (.t 58))]⟩, false, 130944, 0),
  (⟨some 60, none, false, .mv (.t 15)⟩, false, 0, 0),
  (⟨some 61, none, false, .mv (.t 12)⟩, false, 0, 0),
  (⟨some 62, none, false, .bld [(.int .i64 0), (.int .i64 0)] [(0, 1, (.t 60)), (1, 1, (.t 61))]⟩, false, 786432, 0),
  (⟨some 63, none, false, .bld [(.slice none 0 0), (.int .i64 0), (.int .i64 0), (.int .i64 0), (.int .i64 0), (.int .i64 0), (.int .i64 0), (.int .u8 0)] [(1, 2, (.t 48)), (3, 2, (.t 59)), (5, 2, (.t 62)), (7, 1, (.k (.int .u8 2)))]⟩, false, 2097151, 0),
  (⟨some 16, none, false, .alloc [(.slice none 0 0), (.int .i64 0), (.int .i64 0), (.int .i64 0), (.int .i64 0), (.int .i64 0), (.int .i64 0), (.int .u8 0)]⟩, false, 0, 21152),
  (⟨none, none, false, .st 8 (.t 16) (.t 63)⟩, true, 8388607, 0)] (some [3, 6, 9, 10, 11, 13, 14, 16])
def ir5_r8 : IC := .reg [⟨some 64, none, false, .fad 0 (.t 10)⟩,
  ⟨some 65, none, false, .ldc (.t 64)⟩,
  ⟨some 66, none, false, .len (.t 65)⟩,
  ⟨some 67, none, false, .mv (.k (.int .i64 0))⟩] (some [3, 6, 9, 10, 11, 13, 14, 16, 66, 67])
def ir5_r9 : IC := .reg [⟨some 68, none, false, .cmp .lss (.t 67) (.t 66)⟩] (some [3, 6, 9, 10, 11, 13, 14, 16, 66, 67, 68])
def ir5_5 : IC := .cond (.t 68) .skip (.exit 0)
def ir5_r10 : IC := .reg [⟨some 69, none, false, .mv (.t 67)⟩,
  ⟨some 17, none, false, .mv (.t 69)⟩] (some [3, 6, 9, 10, 11, 13, 14, 16, 17, 66, 67])
def ir5_r11 : IC := .draw [(⟨some 70, none, false, .fad 0 (.t 16)⟩, false, 0, 0),
  (⟨some 71, none, false, .ldc (.t 70)⟩, false, 1, 16385),
  (⟨some 72, none, false, .fad 0 (.t 10)⟩, false, 0, 0),
  (⟨some 73, none, false, .ldc (.t 72)⟩, false, 4, 16386),
  (⟨some 74, none, false, .mv (.t 17)⟩, false, 0, 0),
  (⟨some 75, none, false, .iad 1 (.t 73) (.t 74)⟩, false, 28, 0),
  (⟨some 76, none, false, .ldc (.t 75)⟩, false, 60, 16386),
  (⟨some 77, none, false, .fad 0 (.t 13)⟩, false, 0, 0),
  (⟨some 78, none, false, .ldc (.t 77)⟩, false, 128, 16446),
  (⟨some 79, none, false, .mv (.t 17)⟩, false, 0, 0),
  (⟨some 80, none, false, .iad 1 (.t 78) (.t 79)⟩, false, 896, 0),
  (⟨some 81, none, false, .ldc (.t 80)⟩, false, 1920, 16446),
  (⟨some 82, none, false, .bld [(.int .i64 0), (.int .i64 0)] [(0, 1, (.t 76)), (1, 1, (.t 81))]⟩, false, 4092, 0),
  (⟨some 83, none, false, .bsl 2 1 [(.int .i64 0), (.int .i64 0)] [(0, (.t 82))]⟩, false, 8188, 16386),
  (⟨some 84, none, false, .app 2 16 (.t 71) (.t 83)⟩, true, 16383, 0),
  (⟨some 85, none, false, .fad 0 (.t 16)⟩, false, 32767, 0),
  (⟨none, none, false, .st 1 (.t 85) (.t 84)⟩, true, 65535, 0)] (some [3, 6, 9, 10, 11, 13, 14, 16, 66, 67])
def ir5_6 : IC := .seq ir5_r10 ir5_r11
def ir5_7 : IC := .block 1 ir5_6
def ir5_r12 : IC := .reg [⟨some 86, none, false, .ar .add (.t 67) (.k (.int .i64 1))⟩,
  ⟨some 67, none, false, .mv (.t 86)⟩] (some [3, 6, 9, 10, 11, 13, 14, 16, 66, 67])
def ir5_8 : IC := .seq ir5_7 ir5_r12
def ir5_9 : IC := .seq ir5_5 ir5_8
def ir5_10 : IC := .seq ir5_r9 ir5_9
def ir5_11 : IC := .loop ir5_10
def ir5_12 : IC := .block 0 ir5_11
def ir5_13 : IC := .seq ir5_r8 ir5_12
def ir5_r13 : IC := .reg [⟨some 88, none, false, .lda 11 (.t 9)⟩,
  ⟨some 89, none, false, .call (.f 20) [(.t 88)]⟩,
  ⟨some 90, none, false, .cmp .eql (.t 89) (.k (.int .i64 0))⟩,
  ⟨some 91, none, false, .mv (.t 90)⟩,
  ⟨some 92, some (91, false), false, .mv (.t 14)⟩,
  ⟨some 93, some (91, false), false, .fad 4 (.t 3)⟩,
  ⟨some 94, some (91, false), false, .ldc (.t 93)⟩,
  ⟨some 95, some (91, false), false, .cmp .geq (.t 92) (.t 94)⟩,
  ⟨some 96, none, false, .pick (.t 91) (.k (.bool true)) (.t 95)⟩,
  ⟨some 87, none, false, .mv (.t 96)⟩] (some [3, 6, 11, 16, 87])
def ir5_r14 : IC := .reg [⟨some 97, none, false, .fad 7 (.t 16)⟩,
  ⟨none, none, false, .st 1 (.t 97) (.k (.int .u8 3))⟩] (some [6, 16])
def ir5_r15 : IC := .reg [⟨some 99, none, false, .mv (.t 11)⟩,
  ⟨some 100, none, false, .fad 4 (.t 3)⟩,
  ⟨some 101, none, false, .ldc (.t 100)⟩,
  ⟨some 102, none, false, .cmp .lss (.t 99) (.t 101)⟩,
  ⟨some 98, none, false, .mv (.t 102)⟩] (some [6, 16, 98])
def ir5_r16 : IC := .reg [⟨some 103, none, false, .fad 7 (.t 16)⟩,
  ⟨none, none, false, .st 1 (.t 103) (.k (.int .u8 1))⟩] (some [6, 16])
def ir5_14 : IC := .cond (.t 98) ir5_r16 .skip
def ir5_15 : IC := .seq ir5_r15 ir5_14
def ir5_16 : IC := .cond (.t 87) ir5_r14 ir5_15
def ir5_17 : IC := .seq ir5_r13 ir5_16
def ir5_18 : IC := .block 2 ir5_17
def ir5_r17 : IC := .reg [⟨some 104, none, false, .lda 8 (.t 16)⟩,
  ⟨none, none, false, .st 8 (.t 6) (.t 104)⟩,
  ⟨some 7, none, false, .mv (.k (.int .i64 0))⟩] (some [6, 7])
def ir5_19 : IC := .seq ir5_r17 .ret
def ir5_20 : IC := .seq ir5_18 ir5_19
def ir5_21 : IC := .seq ir5_13 ir5_20
def ir5_22 : IC := .seq ir5_r7 ir5_21
def ir5_23 : IC := .seq ir5_r6 ir5_22
def ir5_24 : IC := .seq ir5_r5 ir5_23
def ir5_25 : IC := .seq ir5_r4 ir5_24
def ir5_26 : IC := .seq ir5_4 ir5_25
def ir5_27 : IC := .seq ir5_r0 ir5_26
def ir5 : IC := ir5_27
theorem fn5 : FnIs Try.prog 5 ir5 105 [.cell 6 37, .tmp 7] := ⟨Try.f5, Try.f5.body.getD .skip, Try.func5, by kernel_rfl, by kernel_rfl, by kernel_rfl, by kernel_rfl⟩
section
variable {c : Wb} {len : Int}
theorem predictE_c {e : Int} (he : ckE c len = e) (h0 : e ≠ 0) : Fc Try.prog 5 [wirV c, webV c, .int .i64 len] (Hp 1 [none]) (.tuple #[.agg #[.slice none 0 0, .int .i64 0, .int .i64 0, .int .i64 0, .int .i64 0, .int .i64 0, .int .i64 0, .int .u8 0], .int .i64 e]) (Hp 1 [none]) := by
  refine Fc.intro0 fn5 (by simp) rfl rfl ?_; simp only [argF]
  refine ITri.seq ?_
  refine ITri.reg pok ?_; simp -implicitDefEqProofs (disch := first | decide | exact of_eq_true (eq_true rfl) | omega | assumption) only [ ↓vcD, vcE, ↓vcG, vcF, evs, evP, evB, intsOf, fillC, Value.cells, pt, Value.oneCell', reduceIte, reduceCtorEq, Nat.reduceEqDiff, Nat.reduceAdd, Nat.reduceMul, Nat.reduceLT, Nat.reduceBEq, Nat.reduceLeDiff, Nat.reduceSub] -- r0
  refine ITri.seq ?_
  refine ITri.seq ?_
  refine ITri.reg pok ?_; simp -implicitDefEqProofs (disch := first | decide | exact of_eq_true (eq_true rfl) | omega | assumption) only [ ↓vcD, vcE, ↓vcG, vcF, evs, evP, evB, intsOf, fillC, Value.cells, pt, Value.oneCell', reduceIte, reduceCtorEq, Nat.reduceEqDiff, Nat.reduceAdd, Nat.reduceMul, Nat.reduceLT, Nat.reduceBEq, Nat.reduceLeDiff, Nat.reduceSub] -- r1
  refine ⟨_, _, check_f c len (sees0 rfl (of_decide_eq_true rfl)), ?_⟩
  rw [he]
  try simp -implicitDefEqProofs (disch := first | decide | exact of_eq_true (eq_true rfl) | omega | assumption) only [ ↓vcD, vcE, ↓vcG, vcF, evs, evP, evB, intsOf, fillC, Value.cells, pt, Value.oneCell', reduceIte, reduceCtorEq, Nat.reduceEqDiff, Nat.reduceAdd, Nat.reduceMul, Nat.reduceLT, Nat.reduceBEq, Nat.reduceLeDiff, Nat.reduceSub]
  refine ITri.seq ?_
  refine ITri.reg pok ?_; simp -implicitDefEqProofs (disch := first | decide | exact of_eq_true (eq_true rfl) | omega | assumption) only [h0, decide_false, Bool.not_false,  ↓vcD, vcE, ↓vcG, vcF, evs, evP, evB, intsOf, fillC, Value.cells, pt, Value.oneCell', reduceIte, reduceCtorEq, Nat.reduceEqDiff, Nat.reduceAdd, Nat.reduceMul, Nat.reduceLT, Nat.reduceBEq, Nat.reduceLeDiff, Nat.reduceSub] -- r2
  refine ITri.cond (v := true) rfl (fun _ => ?_) (fun h => by cases h)
  refine ITri.seq ?_
  refine ITri.reg pok ?_; simp -implicitDefEqProofs (disch := first | decide | exact of_eq_true (eq_true rfl) | omega | assumption) only [ ↓vcD, vcE, ↓vcG, vcF, evs, evP, evB, intsOf, fillC, Value.cells, pt, Value.oneCell', reduceIte, reduceCtorEq, Nat.reduceEqDiff, Nat.reduceAdd, Nat.reduceMul, Nat.reduceLT, Nat.reduceBEq, Nat.reduceLeDiff, Nat.reduceSub] -- r3
  refine ITri.ret ?_; exact EndR.plain (vs := [.agg ⟨[.slice none 0 0, .int .i64 0, .int .i64 0, .int .i64 0, .int .i64 0, .int .i64 0, .int .i64 0, .int .u8 0]⟩, .int .i64 e]) (by simp) (resF_agg 8 rfl (by kernel_rfl) (by simp -implicitDefEqProofs (disch := first | decide | exact of_eq_true (eq_true rfl) | omega | assumption) only [↓vcD, vcE, ↓vcG, vcF, evs, evP, evB, intsOf, fillC, Value.cells, pt, Value.oneCell', reduceIte, reduceCtorEq, Nat.reduceEqDiff, Nat.reduceAdd, Nat.reduceMul, Nat.reduceLT, Nat.reduceBEq, Nat.reduceLeDiff, Nat.reduceSub]) (resF_tmp rfl resF_nil)) (by rfl) (by rfl)
theorem KF_mem {d0 : Int} {W S : List Int} (V : Vd c len) (C : Co c len d0 W S) : ∀ j, j ≤ usF c len → ∀ x ∈ KF c len d0 W S j, 0 ≤ x ∧ x ≤ 600000000
  | 0, _, x, hx => by cases hx
  | j + 1, h, x, hx => by
    have hx : x ∈ KF c len d0 W S j ++ [kfF c len d0 W S j] := hx
    rcases List.mem_append.1 hx with hx | hx
    · exact KF_mem V C j (by omega) x hx
    · rw [List.mem_singleton] at hx
      subst hx
      have h1 := kfF_bd V C (show j < usF c len by omega)
      have h2 := room_bd V (show j < usF c len by omega)
      omega
theorem wr8a (z0 z1 z2 z3 z4 z5 z6 z7 a0 a1 : Value) : writeAt [z0, z1, z2, z3, z4, z5, z6, z7] 1 [a0, a1] = [z0, a0, a1, z3, z4, z5, z6, z7] := rfl
theorem wr8b (z0 z1 z2 z3 z4 z5 z6 z7 a0 a1 : Value) : writeAt [z0, z1, z2, z3, z4, z5, z6, z7] 3 [a0, a1] = [z0, z1, z2, a0, a1, z5, z6, z7] := rfl
theorem wr8c (z0 z1 z2 z3 z4 z5 z6 z7 a0 a1 : Value) : writeAt [z0, z1, z2, z3, z4, z5, z6, z7] 5 [a0, a1] = [z0, z1, z2, z3, z4, a0, a1, z7] := rfl
theorem wr8d (z0 z1 z2 z3 z4 z5 z6 z7 a0 a1 a2 a3 a4 a5 a6 a7 : Value) : writeAt [z0, z1, z2, z3, z4, z5, z6, z7] 0 [a0, a1, a2, a3, a4, a5, a6, a7] = [a0, a1, a2, a3, a4, a5, a6, a7] := rfl
structure PS where
  i : Nat
  v : Value
  M : List (Option AObj)
/-- Where the slices' ranges are gathered. -/
structure PI (c : Wb) (len : Int) (tS nS : List Int) (vs : List Value) (n : Nat) (x x2 y u v : Value) (s : PS) : Prop where
  le : s.i ≤ n
  wb : s.M[1]? = some (some (.cells ⟨[.int .i64 c.dl, .int .i64 c.dh, .int .i64 c.wl, .int .i64 c.wh, .int .i64 c.le], 1, false⟩))
  res : s.M[3]? = some (some (.cells ⟨[.slice none 0 0, .int .i64 0, .int .i64 0, .int .i64 0, .int .i64 0, .int .i64 0, .int .i64 0, .int .u8 0], 1, false⟩))
  saw : s.M[4]? = some (sawO c len)
  tr : s.M[5]? = some (some (.cells ⟨rows eI tS, 1, true⟩))
  tb : s.M[7]? = some (some (.cells ⟨[sO 5 n, x, y, u], 1, false⟩))
  nr : s.M[8]? = some (some (.cells ⟨rows eI nS, 1, true⟩))
  nb : s.M[10]? = some (some (.cells ⟨[sO 8 n, x2, y, v], 1, false⟩))
  xb : s.M[11]? = some (some (.cells ⟨s.v :: vs, 1, false⟩))
  row : (s.i = 0 ∧ s.v = .slice none 0 0) ∨ ∃ k, 12 ≤ k ∧ s.v = .slice (some ⟨k, 0, none⟩) s.i openB ∧ s.M[k]? = some (some (.cells ⟨pairs tS nS s.i, 2, true⟩))
variable {tS nS : List Int} {vs : List Value} {m : Nat} {x x2 y u v : Value}
theorem pi_app {s : PS} (I : PI c len tS nS vs m x x2 y u v s) (hi : s.i < m) (hm : m ≤ 2000) :
    ∃ k' M', 12 ≤ k' ∧ M'[11]? = some (some (.cells ⟨s.v :: vs, 1, false⟩)) ∧ 11 < M'.length ∧ PI c len tS nS vs m x x2 y u v ⟨s.i + 1, .slice (some ⟨k', 0, none⟩) (s.i + 1) openB, M'.set 11 (some (.cells ⟨.slice (some ⟨k', 0, none⟩) (s.i + 1) openB :: vs, 1, false⟩))⟩ ∧
      ∀ K : Value → AH → Prop, K (.slice (some ⟨k', 0, none⟩) (s.i + 1) openB) (Hp 1 M') → appK (Hp 1 (s.M ++ [some (AObj.cells ⟨[.int .i64 (nth tS s.i), .int .i64 (nth nS s.i)], 2, false⟩)])) 2 16 s.v (.slice (some ⟨s.M.length, 0, none⟩) 1 1) K := by
  obtain ⟨i, v0, M⟩ := s
  obtain ⟨le, wb, res, saw, tr, tb, nr, nb, xb, row⟩ := I
  simp only at le wb res saw tr tb nr nb xb row hi ⊢
  have hl := get_lt xb
  obtain ⟨M2, hM2⟩ : ∃ M2, M ++ [some (AObj.cells ⟨[.int .i64 (nth tS i), .int .i64 (nth nS i)], 2, false⟩)] = M2 := ⟨_, rfl⟩
  have l2 : M2.length = M.length + 1 := by rw [← hM2, List.length_append]; rfl
  have o2 : ∀ j, j < M.length → M2[j]? = M[j]? := fun j hj => by rw [← hM2, List.getElem?_append_left hj]
  have hk : cellsAt (Hp 1 M2) M.length 0 2 = some [.int .i64 (nth tS i), .int .i64 (nth nS i)] := cells_all (by rw [← hM2, List.getElem?_append_right (Nat.le_refl _), Nat.sub_self]; rfl) rfl
  rw [hM2]
  have fin : ∀ M' : List (Option AObj), M'.length = M2.length + 1 → (∀ j, j < 12 → M'[j]? = M2[j]?) → M'[M2.length]? = some (some (.cells ⟨pairs tS nS (i + 1), 2, true⟩)) → PI c len tS nS vs m x x2 y u v ⟨i + 1, .slice (some ⟨M2.length, 0, none⟩) (i + 1) openB, M'.set 11 (some (.cells ⟨.slice (some ⟨M2.length, 0, none⟩) (i + 1) openB :: vs, 1, false⟩))⟩ := by
    intro M' h1 h2 h3
    have low : ∀ j, j < 11 → (M'.set 11 (some (AObj.cells ⟨.slice (some ⟨M2.length, 0, none⟩) (i + 1) openB :: vs, 1, false⟩)))[j]? = M[j]? := fun j hj => by rw [List.getElem?_set_ne (by omega), h2 j (by omega), o2 j (by omega)]
    refine ⟨hi, (low 1 (by decide)).trans wb, (low 3 (by decide)).trans res, (low 4 (by decide)).trans saw, (low 5 (by decide)).trans tr, (low 7 (by decide)).trans tb, (low 8 (by decide)).trans nr, (low 10 (by decide)).trans nb, List.getElem?_set_self (by omega), .inr ⟨M2.length, by omega, rfl, ?_⟩⟩
    show (M'.set 11 _)[M2.length]? = _
    rw [List.getElem?_set_ne (by omega)]
    exact h3
  rcases row with ⟨rfl, rfl⟩ | ⟨k, hk12, rfl, hkr⟩
  · refine ⟨M2.length, M2 ++ [some (AObj.cells ⟨pairs tS nS 1, 2, true⟩)], by omega, by rw [List.getElem?_append_left (by omega), o2 11 hl]; exact xb, by rw [List.length_append]; omega, fin _ (by rw [List.length_append]; rfl) (fun j hj => List.getElem?_append_left (by omega)) (by rw [List.getElem?_append_right (Nat.le_refl _), Nat.sub_self]; rfl), fun K q => ?_⟩
    rw [appK_n (by decide), show cellsAt (Hq 1 [] M2) M.length 0 (1 * 2) = some [.int .i64 (nth tS 0), .int .i64 (nth nS 0)] from hk]
    show chk _ _
    unfold chk
    exact ⟨by decide, q⟩
  · have hkl := get_lt hkr
    have g3 : M2[k]? = some (some (.cells ⟨pairs tS nS i, 2, true⟩)) := by rw [o2 k hkl]; exact hkr
    refine ⟨M2.length, (M2 ++ [some (AObj.cells ⟨pairs tS nS (i + 1), 2, true⟩)]).set k none, by omega, by rw [List.getElem?_set_ne (by omega), List.getElem?_append_left (by omega), o2 11 hl]; exact xb, by rw [List.length_set, List.length_append]; omega, fin _ (by rw [List.length_set, List.length_append]; rfl) (fun j hj => by rw [List.getElem?_set_ne (by omega), List.getElem?_append_left (by omega)]) (by rw [List.getElem?_set_ne (by omega), List.getElem?_append_right (Nat.le_refl _), Nat.sub_self]; rfl), fun K q => ?_⟩
    rw [appK_o rfl (by rw [g3]; rfl) (pairs_len tS nS i) (by decide), show cellsAt (Hq 1 [] M2) M.length 0 (1 * 2) = some [.int .i64 (nth tS i), .int .i64 (nth nS i)] from hk]
    show chk _ _
    unfold chk
    exact ⟨⟨by omega, by omega⟩, rfl, q⟩
theorem predict_r {s0 : PS} {la la2 a1 a2 a3 a4 a5 a6 a7 : Int} {n : Nat} (I0 : PI c len tS nS [.int .i64 a1, .int .i64 a2, .int .i64 a3, .int .i64 a4, .int .i64 a5, .int .i64 a6, .int .u8 2] m x x2 y u v s0) (hi0 : s0.i = 0) (V : Vd c len) (hn : usF c len = n) (l3 : tS.length = m) (l4 : nS.length = m) (hm : m ≤ 2000) (ha7 : a7 = (if n = 0 ∨ la2 ≥ c.le then 3 else if la < c.le then 1 else 2)) :
    ITri Try.prog 105 none 1 ir5_21 [(3, pt 1), (6, pt 3), (9, pt 4), (10, pt 7), (11, .int .i64 la), (13, pt 10), (14, .int .i64 la2), (16, pt 11)] [] (Hp 1 s0.M) (EndR Try.prog [.cell 6 37, .tmp 7] 1 [.cells ⟨pairs tS nS m, 2, true⟩] (.tuple #[.agg #[.slice (some ⟨1, 0, none⟩) m openB, .int .i64 a1, .int .i64 a2, .int .i64 a3, .int .i64 a4, .int .i64 a5, .int .i64 a6, .int .u8 a7], .int .i64 0])) := by
  refine ITri.seq ?_
  refine ITri.seq ?_
  refine ITri.reg pok ?_; simp -implicitDefEqProofs (disch := first | decide | exact of_eq_true (eq_true rfl) | omega | assumption) only [I0.tb,  ↓vcD, vcE, ↓vcG, vcF, evs, evP, evB, intsOf, fillC, Value.cells, pt, Value.oneCell', reduceIte, reduceCtorEq, Nat.reduceEqDiff, Nat.reduceAdd, Nat.reduceMul, Nat.reduceLT, Nat.reduceBEq, Nat.reduceLeDiff, Nat.reduceSub] -- r8
  refine ITri.block ?_ -- 0
  refine ITri.loop (fun s : PS => [(3, pt 1), (6, pt 3), (9, pt 4), (10, pt 7), (11, .int .i64 la), (13, pt 10), (14, .int .i64 la2), (16, pt 11), (66, .int .i64 m), (67, .int .i64 s.i)]) (fun _ => []) (fun s => Hp 1 s.M) (PI c len tS nS [.int .i64 a1, .int .i64 a2, .int .i64 a3, .int .i64 a4, .int .i64 a5, .int .i64 a6, .int .u8 2] m x x2 y u v) (fun s => m - s.i) s0 I0 (Wk.sub ⟨rfl, rfl, rfl, rfl, rfl, rfl, rfl, rfl, rfl, by rw [hi0]; rfl, trivial⟩) fun s I => ?_
  refine ITri.seq ?_
  refine ITri.reg pok ?_; simp -implicitDefEqProofs (disch := first | decide | exact of_eq_true (eq_true rfl) | omega | assumption) only [ ↓vcD, vcE, ↓vcG, vcF, evs, evP, evB, intsOf, fillC, Value.cells, pt, Value.oneCell', reduceIte, reduceCtorEq, Nat.reduceEqDiff, Nat.reduceAdd, Nat.reduceMul, Nat.reduceLT, Nat.reduceBEq, Nat.reduceLeDiff, Nat.reduceSub] -- r9
  refine ITri.seq ?_
  refine ITri.condD (by rfl) (fun h3 => ?_) (fun h3 => ?_) -- %68
  · have hix : s.i < m := by omega
    have g1 := getI (xs := tS) (i := s.i) (by omega)
    have g2 := getI (xs := nS) (i := s.i) (by omega)
    have hi1 : (s.i : Int) + 1 = ((s.i + 1 : Nat) : Int) := by omega
    refine ITri.skip ?_; simp only [SeqQ_normal, BlkQ_normal]
    refine ITri.seq ?_
    refine ITri.block ?_ -- 1
    refine ITri.seq ?_
    refine ITri.reg pok ?_; simp -implicitDefEqProofs (disch := first | decide | exact of_eq_true (eq_true rfl) | omega | assumption) only [ ↓vcD, vcE, ↓vcG, vcF, evs, evP, evB, intsOf, fillC, Value.cells, pt, Value.oneCell', reduceIte, reduceCtorEq, Nat.reduceEqDiff, Nat.reduceAdd, Nat.reduceMul, Nat.reduceLT, Nat.reduceBEq, Nat.reduceLeDiff, Nat.reduceSub] -- r10
    refine ITri.draw pok ?_; simp -implicitDefEqProofs (disch := first | decide | exact of_eq_true (eq_true rfl) | omega | assumption) only [I.xb, I.tb, I.nb, I.tr, I.nr, g1, g2,  ↓vcD, vcE, ↓vcG, vcF, evs, evP, evB, intsOf, fillC, Value.cells, pt, Value.oneCell', reduceIte, reduceCtorEq, Nat.reduceEqDiff, Nat.reduceAdd, Nat.reduceMul, Nat.reduceLT, Nat.reduceBEq, Nat.reduceLeDiff, Nat.reduceSub] -- r11
    obtain ⟨k', M', hk', hx', hl', J, q⟩ := pi_app I hix hm
    refine q _ ?_
    have hw : (1 : Nat) ≤ 11 := by decide
    simp -implicitDefEqProofs (disch := first | decide | exact of_eq_true (eq_true rfl) | omega | assumption) only [hx', hw,  ↓vcD, vcE, ↓vcG, vcF, evs, evP, evB, intsOf, fillC, Value.cells, pt, Value.oneCell', reduceIte, reduceCtorEq, Nat.reduceEqDiff, Nat.reduceAdd, Nat.reduceMul, Nat.reduceLT, Nat.reduceBEq, Nat.reduceLeDiff, Nat.reduceSub]
    refine ITri.reg pok ?_; simp -implicitDefEqProofs (disch := first | decide | exact of_eq_true (eq_true rfl) | omega | assumption) only [hi1,  ↓vcD, vcE, ↓vcG, vcF, evs, evP, evB, intsOf, fillC, Value.cells, pt, Value.oneCell', reduceIte, reduceCtorEq, Nat.reduceEqDiff, Nat.reduceAdd, Nat.reduceMul, Nat.reduceLT, Nat.reduceBEq, Nat.reduceLeDiff, Nat.reduceSub] -- r12
    exact LoopQ.next ⟨s.i + 1, _, _⟩ J (by show m - (s.i + 1) < m - s.i; omega) (Wk.sub ⟨rfl, rfl, rfl, rfl, rfl, rfl, rfl, rfl, rfl, rfl, trivial⟩)
  refine ITri.exit ?_; try simp -implicitDefEqProofs (disch := first | decide | exact of_eq_true (eq_true rfl) | omega | assumption) only [ ↓vcD, vcE, ↓vcG, vcF, evs, evP, evB, intsOf, fillC, Value.cells, pt, Value.oneCell', reduceIte, reduceCtorEq, Nat.reduceEqDiff, Nat.reduceAdd, Nat.reduceMul, Nat.reduceLT, Nat.reduceBEq, Nat.reduceLeDiff, Nat.reduceSub] -- exit 0
  have him : s.i = m := by have := I.le; omega
  have hl := get_lt I.xb
  refine ITri.seq ?_
  have hs0 : (Hp 1 s.M).sees 0 = true := sees0 rfl (by omega)
  have x11 := I.xb
  have hw : (1 : Nat) ≤ 11 := by decide
  refine ITri.atF (l2 := [(6, pt 3), (16, pt 11)]) (h2 := Hp 1 (s.M.set 11 (some (.cells ⟨[s.v, .int .i64 a1, .int .i64 a2, .int .i64 a3, .int .i64 a4, .int .i64 a5, .int .i64 a6, .int .u8 a7], 1, false⟩)))) ?_ ?_
  · refine ITri.block ?_ -- 2
    refine ITri.seq ?_
    by_cases c1 : n = 0
    · have c1' : (n : Int) = 0 := by omega
      obtain rfl : a7 = 3 := by rw [ha7, if_pos (.inl c1)]
      refine ITri.reg pok ?_; simp -implicitDefEqProofs (disch := first | decide | exact of_eq_true (eq_true rfl) | omega | assumption) only [I.saw,  ↓vcD, vcE, ↓vcG, vcF, evs, evP, evB, intsOf, fillC, Value.cells, pt, Value.oneCell', reduceIte, reduceCtorEq, Nat.reduceEqDiff, Nat.reduceAdd, Nat.reduceMul, Nat.reduceLT, Nat.reduceBEq, Nat.reduceLeDiff, Nat.reduceSub] -- r13
      refine ⟨_, _, used_f c len V hs0, ?_⟩
      rw [hn]
      simp -implicitDefEqProofs (disch := first | decide | exact of_eq_true (eq_true rfl) | omega | assumption) only [c1', decide_true,  ↓vcD, vcE, ↓vcG, vcF, evs, evP, evB, intsOf, fillC, Value.cells, pt, Value.oneCell', reduceIte, reduceCtorEq, Nat.reduceEqDiff, Nat.reduceAdd, Nat.reduceMul, Nat.reduceLT, Nat.reduceBEq, Nat.reduceLeDiff, Nat.reduceSub]
      refine ITri.cond (v := true) rfl (fun _ => ?_) (fun h => by cases h)
      refine ITri.reg pok ?_; simp -implicitDefEqProofs (disch := first | decide | exact of_eq_true (eq_true rfl) | omega | assumption) only [x11, hw,  ↓vcD, vcE, ↓vcG, vcF, evs, evP, evB, intsOf, fillC, Value.cells, pt, Value.oneCell', reduceIte, reduceCtorEq, Nat.reduceEqDiff, Nat.reduceAdd, Nat.reduceMul, Nat.reduceLT, Nat.reduceBEq, Nat.reduceLeDiff, Nat.reduceSub] -- r14
      exact AtF.mk ⟨rfl, rfl, trivial⟩
    have c1' : ¬ (n : Int) = 0 := by omega
    by_cases c2 : la2 ≥ c.le
    · obtain rfl : a7 = 3 := by rw [ha7, if_pos (.inr c2)]
      refine ITri.reg pok ?_; simp -implicitDefEqProofs (disch := first | decide | exact of_eq_true (eq_true rfl) | omega | assumption) only [I.saw,  ↓vcD, vcE, ↓vcG, vcF, evs, evP, evB, intsOf, fillC, Value.cells, pt, Value.oneCell', reduceIte, reduceCtorEq, Nat.reduceEqDiff, Nat.reduceAdd, Nat.reduceMul, Nat.reduceLT, Nat.reduceBEq, Nat.reduceLeDiff, Nat.reduceSub] -- r13
      refine ⟨_, _, used_f c len V hs0, ?_⟩
      rw [hn]
      simp -implicitDefEqProofs (disch := first | decide | exact of_eq_true (eq_true rfl) | omega | assumption) only [c1', c2, I.wb, decide_true, decide_false,  ↓vcD, vcE, ↓vcG, vcF, evs, evP, evB, intsOf, fillC, Value.cells, pt, Value.oneCell', reduceIte, reduceCtorEq, Nat.reduceEqDiff, Nat.reduceAdd, Nat.reduceMul, Nat.reduceLT, Nat.reduceBEq, Nat.reduceLeDiff, Nat.reduceSub]
      refine ITri.cond (v := true) rfl (fun _ => ?_) (fun h => by cases h)
      refine ITri.reg pok ?_; simp -implicitDefEqProofs (disch := first | decide | exact of_eq_true (eq_true rfl) | omega | assumption) only [x11, hw,  ↓vcD, vcE, ↓vcG, vcF, evs, evP, evB, intsOf, fillC, Value.cells, pt, Value.oneCell', reduceIte, reduceCtorEq, Nat.reduceEqDiff, Nat.reduceAdd, Nat.reduceMul, Nat.reduceLT, Nat.reduceBEq, Nat.reduceLeDiff, Nat.reduceSub] -- r14
      exact AtF.mk ⟨rfl, rfl, trivial⟩
    refine ITri.reg pok ?_; simp -implicitDefEqProofs (disch := first | decide | exact of_eq_true (eq_true rfl) | omega | assumption) only [I.saw,  ↓vcD, vcE, ↓vcG, vcF, evs, evP, evB, intsOf, fillC, Value.cells, pt, Value.oneCell', reduceIte, reduceCtorEq, Nat.reduceEqDiff, Nat.reduceAdd, Nat.reduceMul, Nat.reduceLT, Nat.reduceBEq, Nat.reduceLeDiff, Nat.reduceSub] -- r13
    refine ⟨_, _, used_f c len V hs0, ?_⟩
    rw [hn]
    simp -implicitDefEqProofs (disch := first | decide | exact of_eq_true (eq_true rfl) | omega | assumption) only [c1', c2, I.wb, decide_false,  ↓vcD, vcE, ↓vcG, vcF, evs, evP, evB, intsOf, fillC, Value.cells, pt, Value.oneCell', reduceIte, reduceCtorEq, Nat.reduceEqDiff, Nat.reduceAdd, Nat.reduceMul, Nat.reduceLT, Nat.reduceBEq, Nat.reduceLeDiff, Nat.reduceSub]
    refine ITri.cond (v := false) rfl (fun h => by cases h) (fun _ => ?_)
    refine ITri.seq ?_
    by_cases c3 : la < c.le
    · obtain rfl : a7 = 1 := by rw [ha7, if_neg (by rintro (h | h); exact c1 h; exact c2 h), if_pos c3]
      refine ITri.reg pok ?_; simp -implicitDefEqProofs (disch := first | decide | exact of_eq_true (eq_true rfl) | omega | assumption) only [c3, I.wb, decide_true,  ↓vcD, vcE, ↓vcG, vcF, evs, evP, evB, intsOf, fillC, Value.cells, pt, Value.oneCell', reduceIte, reduceCtorEq, Nat.reduceEqDiff, Nat.reduceAdd, Nat.reduceMul, Nat.reduceLT, Nat.reduceBEq, Nat.reduceLeDiff, Nat.reduceSub] -- r15
      refine ITri.cond (v := true) rfl (fun _ => ?_) (fun h => by cases h)
      refine ITri.reg pok ?_; simp -implicitDefEqProofs (disch := first | decide | exact of_eq_true (eq_true rfl) | omega | assumption) only [x11, hw,  ↓vcD, vcE, ↓vcG, vcF, evs, evP, evB, intsOf, fillC, Value.cells, pt, Value.oneCell', reduceIte, reduceCtorEq, Nat.reduceEqDiff, Nat.reduceAdd, Nat.reduceMul, Nat.reduceLT, Nat.reduceBEq, Nat.reduceLeDiff, Nat.reduceSub] -- r16
      exact AtF.mk ⟨rfl, rfl, trivial⟩
    · obtain rfl : a7 = 2 := by rw [ha7, if_neg (by rintro (h | h); exact c1 h; exact c2 h), if_neg c3]
      refine ITri.reg pok ?_; simp -implicitDefEqProofs (disch := first | decide | exact of_eq_true (eq_true rfl) | omega | assumption) only [c3, I.wb, decide_false,  ↓vcD, vcE, ↓vcG, vcF, evs, evP, evB, intsOf, fillC, Value.cells, pt, Value.oneCell', reduceIte, reduceCtorEq, Nat.reduceEqDiff, Nat.reduceAdd, Nat.reduceMul, Nat.reduceLT, Nat.reduceBEq, Nat.reduceLeDiff, Nat.reduceSub] -- r15
      refine ITri.cond (v := false) rfl (fun h => by cases h) (fun _ => ?_); refine ITri.skip ?_; simp only [SeqQ_normal, BlkQ_normal]
      rw [set_id x11]
      exact AtF.mk ⟨rfl, rfl, trivial⟩
  obtain ⟨M1, hM1⟩ : ∃ M1, s.M.set 11 (some (AObj.cells ⟨[s.v, .int .i64 a1, .int .i64 a2, .int .i64 a3, .int .i64 a4, .int .i64 a5, .int .i64 a6, .int .u8 a7], 1, false⟩)) = M1 := ⟨_, rfl⟩
  rw [hM1]
  have ml : M1.length = s.M.length := by rw [← hM1, List.length_set]
  have m11 : M1[11]? = some (some (AObj.cells ⟨[s.v, .int .i64 a1, .int .i64 a2, .int .i64 a3, .int .i64 a4, .int .i64 a5, .int .i64 a6, .int .u8 a7], 1, false⟩)) := by rw [← hM1, List.getElem?_set_self (by omega)]
  have m3 : M1[3]? = some (some (.cells ⟨[.slice none 0 0, .int .i64 0, .int .i64 0, .int .i64 0, .int .i64 0, .int .i64 0, .int .i64 0, .int .u8 0], 1, false⟩)) := by rw [← hM1, List.getElem?_set_ne (by decide)]; exact I.res
  have hw3 : (1 : Nat) ≤ 3 := by decide
  have hset : ∀ z : Option AObj, (M1.set 3 z)[3]? = some z := fun z => List.getElem?_set_self (by omega)
  refine ITri.seq ?_
  rcases I.row with ⟨h1, h2⟩ | ⟨k, hk12, h2, hkr⟩
  · have hm0 : m = 0 := by omega
    subst hm0
    rw [h2] at m11
    refine ITri.reg pok ?_; simp -implicitDefEqProofs (disch := first | decide | exact of_eq_true (eq_true rfl) | omega | assumption) only [m11, m3, hw3, wr8d,  ↓vcD, vcE, ↓vcG, vcF, evs, evP, evB, intsOf, fillC, Value.cells, pt, Value.oneCell', reduceIte, reduceCtorEq, Nat.reduceEqDiff, Nat.reduceAdd, Nat.reduceMul, Nat.reduceLT, Nat.reduceBEq, Nat.reduceLeDiff, Nat.reduceSub] -- r17
    refine ITri.ret ?_
    exact end_nil (mk := fun s => .tuple #[.agg #[s, .int .i64 a1, .int .i64 a2, .int .i64 a3, .int .i64 a4, .int .i64 a5, .int .i64 a6, .int .u8 a7], .int .i64 0]) ⟨fun _ _ _ => rfl, fun _ _ _ h => ⟨⟨h, trivial, trivial, trivial, trivial, trivial, trivial, trivial, trivial⟩, trivial, trivial⟩⟩ (resF_agg (cs := [.slice none 0 0, .int .i64 a1, .int .i64 a2, .int .i64 a3, .int .i64 a4, .int .i64 a5, .int .i64 a6, .int .u8 a7]) 8 rfl (by kernel_rfl) (cells_all (hset _) rfl) (resF_tmp rfl resF_nil)) rfl
  · rw [him] at h2 hkr
    rw [h2] at m11
    have hkr1 : (M1.set 3 (some (AObj.cells ⟨[.slice (some ⟨k, 0, none⟩) m openB, .int .i64 a1, .int .i64 a2, .int .i64 a3, .int .i64 a4, .int .i64 a5, .int .i64 a6, .int .u8 a7], 1, false⟩)))[k]? = some (some (.cells ⟨pairs tS nS m, 2, true⟩)) := by
      rw [List.getElem?_set_ne (by omega), ← hM1, List.getElem?_set_ne (by omega)]
      exact hkr
    refine ITri.reg pok ?_; simp -implicitDefEqProofs (disch := first | decide | exact of_eq_true (eq_true rfl) | omega | assumption) only [m11, m3, hw3, wr8d,  ↓vcD, vcE, ↓vcG, vcF, evs, evP, evB, intsOf, fillC, Value.cells, pt, Value.oneCell', reduceIte, reduceCtorEq, Nat.reduceEqDiff, Nat.reduceAdd, Nat.reduceMul, Nat.reduceLT, Nat.reduceBEq, Nat.reduceLeDiff, Nat.reduceSub] -- r17
    refine ITri.ret ?_
    exact end_mk (k := k) (mk := fun s => .tuple #[.agg #[s, .int .i64 a1, .int .i64 a2, .int .i64 a3, .int .i64 a4, .int .i64 a5, .int .i64 a6, .int .u8 a7], .int .i64 0]) ⟨fun _ _ _ => rfl, fun _ _ _ h => ⟨⟨h, trivial, trivial, trivial, trivial, trivial, trivial, trivial, trivial⟩, trivial, trivial⟩⟩ (by omega) (pairs_no tS nS m) (by rw [hkr1]; rfl) (resF_agg (cs := [.slice (some ⟨k, 0, none⟩) m openB, .int .i64 a1, .int .i64 a2, .int .i64 a3, .int .i64 a4, .int .i64 a5, .int .i64 a6, .int .u8 a7]) 8 rfl (by kernel_rfl) (cells_all (hset _) rfl) (resF_tmp rfl resF_nil)) rfl
end
end Go.Proofs.Ytjfgbdmdnejhdaa
