/-
  Chapter 6: the reference's Get, by names.
-/
import Derived.Test.YtgjokhodccacoaaDoorSRecG3
set_option linter.unusedSimpArgs false
set_option linter.unusedVariables false
namespace Go.Vm
open Go Go.RowKit
section
variable {P : Program} {w : Bool} {t el : TypeId} {f : TypeInfo} {s d e k n a c : Nat} {l : Fr} {h : AH} {K : Value → AH → Prop}
/-- No elements out of a row whose room is known. -/
theorem gen_2z {x y : Int} (hu : P.underlying t = some (.slice el)) (hi : P.info? el = some f) (hsz : f.size = 1) (hl : lk l s = some (.slice (some ⟨k, 0, none⟩) n c)) (h1 : lk l d = some (.int .i64 x)) (h2 : lk l e = some (.int .i64 y)) (hx : x = a) (hy : y = a) (hn : a ≤ n) (ho : c < openB) (hc : n ≤ c) (q : ∀ o' c', K (.slice (some ⟨k, o', none⟩) 0 c') h) :
    iStep P w (.gen (.slice t (.tmp s) (some (.tmp d)) (some (.tmp e)) none)) l h K := by
  subst hx hy
  have hv : ∃ o' c', aSlice P t (.slice (some ⟨k, 0, none⟩) n c) (some (.int .i64 a)) (some (.int .i64 a)) none = some (.slice (some ⟨k, o', none⟩) 0 c') := by
    simp only [aSlice, hu, hi, natOf_n, hsz]
    have n3 : natOf none c = some c := rfl
    simp only [n3, hsz]
    rw [if_pos ho, if_pos ⟨by omega, by omega, Nat.le_refl _, by simp, by simp⟩, Nat.sub_self]
    by_cases hca : c = a
    · rw [if_pos hca]; exact ⟨_, _, rfl⟩
    · rw [if_neg hca]
      simp only [Option.map_some, Addr.add, Nat.zero_add, Nat.mul_one]
      split
      · exact ⟨_, _, rfl⟩
      · exact ⟨_, _, rfl⟩
  obtain ⟨o', c', hv⟩ := hv
  refine ⟨_, _, ?_, q o' c'⟩
  have e1 : aEnv (trOf l) (.tmp s) = some (.slice (some ⟨k, 0, none⟩) n c) := by simp only [aEnv, trOf_get, hl]
  have e2 : aOptV (aEnv (trOf l)) (some (.tmp d)) = some (some (.int .i64 a)) := by simp only [aOptV, aEnv, trOf_get, h1]
  have e3 : aOptV (aEnv (trOf l)) (some (.tmp e)) = some (some (.int .i64 a)) := by simp only [aOptV, aEnv, trOf_get, h2]
  have e4 : aOptV (aEnv (trOf l)) none = some none := rfl
  simp only [aOp, e1, e2, e3, e4, hv]
end
end Go.Vm
namespace Go.Proofs.YtgjokhodccacoaaDoor
open Go.RowKit Go.Vm
set_option maxRecDepth 100000
/- boule/bouleref06.Get · slots 117 · names 0:b 1:at 2:b 3:at 7:n 8:next 9:e 10:c · results [4, 5, 6] -/
def ir26_r0 : IC := .reg [⟨some 4, none, false, .alloc [(.int .i64 0), (.slice none 0 0)]⟩,
  ⟨some 5, none, false, .mv (.k (.int .i64 0))⟩,
  ⟨some 6, none, false, .mv (.k (.int .i64 0))⟩] (some [0, 1, 4])
def ir26_r1 : IC := .reg [⟨some 11, none, false, .mv (.t 0)⟩,
  ⟨some 12, none, false, .len (.t 11)⟩,
  ⟨some 13, none, false, .cmp .gtr (.t 12) (.k (.int .i64 30000))⟩] (some [0, 1, 4, 13])
def ir26_r2 : IC := .reg [⟨some 14, none, false, .bld [(.int .i64 0), (.slice none 0 0)] []⟩,
  ⟨none, none, false, .st 2 (.t 4) (.t 14)⟩,
  ⟨some 5, none, false, .mv (.k (.int .i64 0))⟩,
  ⟨some 6, none, false, .mv (.k (.int .i64 5))⟩] (some [4, 5, 6])
def ir26_1 : IC := .seq ir26_r2 .ret
def ir26_2 : IC := .cond (.t 13) ir26_1 .skip
def ir26_3 : IC := .seq ir26_r1 ir26_2
def ir26_r3 : IC := .reg [⟨some 15, none, false, .mv (.t 1)⟩,
  ⟨some 16, none, false, .cmp .lss (.t 15) (.k (.int .i64 0))⟩,
  ⟨some 17, none, false, .mv (.t 16)⟩,
  ⟨some 18, some (17, false), false, .mv (.t 1)⟩,
  ⟨some 19, some (17, false), false, .mv (.t 0)⟩,
  ⟨some 20, some (17, false), false, .len (.t 19)⟩,
  ⟨some 21, some (17, false), false, .cmp .gtr (.t 18) (.t 20)⟩,
  ⟨some 22, none, false, .pick (.t 17) (.k (.bool true)) (.t 21)⟩] (some [0, 1, 4, 22])
def ir26_r4 : IC := .reg [⟨some 23, none, false, .bld [(.int .i64 0), (.slice none 0 0)] []⟩,
  ⟨none, none, false, .st 2 (.t 4) (.t 23)⟩,
  ⟨some 5, none, false, .mv (.k (.int .i64 0))⟩,
  ⟨some 6, none, false, .mv (.k (.int .i64 3))⟩] (some [4, 5, 6])
def ir26_4 : IC := .seq ir26_r4 .ret
def ir26_5 : IC := .cond (.t 22) ir26_4 .skip
def ir26_6 : IC := .seq ir26_r3 ir26_5
def ir26_r5 : IC := .reg [⟨some 24, none, false, .mv (.t 1)⟩,
  ⟨some 25, none, false, .mv (.t 0)⟩,
  ⟨some 26, none, false, .len (.t 25)⟩,
  ⟨some 27, none, false, .cmp .eql (.t 24) (.t 26)⟩] (some [0, 1, 4, 27])
def ir26_r6 : IC := .reg [⟨some 28, none, false, .bld [(.int .i64 0), (.slice none 0 0)] []⟩,
  ⟨none, none, false, .st 2 (.t 4) (.t 28)⟩,
  ⟨some 5, none, false, .mv (.k (.int .i64 0))⟩,
  ⟨some 6, none, false, .mv (.k (.int .i64 60))⟩] (some [4, 5, 6])
def ir26_7 : IC := .seq ir26_r6 .ret
def ir26_8 : IC := .cond (.t 27) ir26_7 .skip
def ir26_9 : IC := .seq ir26_r5 ir26_8
def ir26_r7 : IC := .reg [⟨some 29, none, false, .mv (.t 0)⟩,
  ⟨some 30, none, false, .mv (.t 1)⟩,
  ⟨some 31, none, false, .iad 1 (.t 29) (.t 30)⟩,
  ⟨some 32, none, false, .ldc (.t 31)⟩,
  ⟨some 33, none, false, .cmp .lss (.t 32) (.k (.int .u8 1))⟩,
  ⟨some 34, none, false, .mv (.t 33)⟩,
  ⟨some 35, some (34, false), false, .mv (.t 0)⟩,
  ⟨some 36, some (34, false), false, .mv (.t 1)⟩,
  ⟨some 37, some (34, false), false, .iad 1 (.t 35) (.t 36)⟩,
  ⟨some 38, some (34, false), false, .ldc (.t 37)⟩,
  ⟨some 39, some (34, false), false, .cmp .gtr (.t 38) (.k (.int .u8 250))⟩,
  ⟨some 40, none, false, .pick (.t 34) (.k (.bool true)) (.t 39)⟩] (some [0, 1, 4, 40])
def ir26_r8 : IC := .reg [⟨some 41, none, false, .bld [(.int .i64 0), (.slice none 0 0)] []⟩,
  ⟨none, none, false, .st 2 (.t 4) (.t 41)⟩,
  ⟨some 5, none, false, .mv (.k (.int .i64 0))⟩,
  ⟨some 6, none, false, .mv (.k (.int .i64 4))⟩] (some [4, 5, 6])
def ir26_10 : IC := .seq ir26_r8 .ret
def ir26_11 : IC := .cond (.t 40) ir26_10 .skip
def ir26_12 : IC := .seq ir26_r7 ir26_11
def ir26_r9 : IC := .reg [⟨some 43, none, false, .mv (.t 0)⟩,
  ⟨some 44, none, false, .mv (.t 1)⟩,
  ⟨some 45, none, false, .ar .add (.t 44) (.k (.int .i64 1))⟩,
  ⟨some 46, none, false, .call (.f 54) [(.t 43), (.t 45)]⟩,
  ⟨some 42, none, false, .mv (.t 46)⟩,
  ⟨some 47, none, false, .ext (.t 42) 0⟩,
  ⟨some 48, none, false, .ext (.t 42) 1⟩,
  ⟨some 49, none, false, .ext (.t 42) 2⟩,
  ⟨some 7, none, false, .mv (.t 47)⟩,
  ⟨some 8, none, false, .mv (.t 48)⟩,
  ⟨some 9, none, false, .mv (.t 49)⟩] (some [0, 1, 4, 7, 8, 9])
def ir26_r10 : IC := .reg [⟨some 51, none, false, .mv (.t 9)⟩,
  ⟨some 52, none, false, .cmp .neq (.t 51) (.k (.int .i64 0))⟩,
  ⟨some 50, none, false, .mv (.t 52)⟩] (some [0, 1, 4, 7, 8, 9, 50])
def ir26_r11 : IC := .reg [⟨some 53, none, false, .bld [(.int .i64 0), (.slice none 0 0)] []⟩,
  ⟨some 54, none, false, .mv (.t 9)⟩,
  ⟨none, none, false, .st 2 (.t 4) (.t 53)⟩,
  ⟨some 5, none, false, .mv (.k (.int .i64 0))⟩,
  ⟨some 6, none, false, .mv (.t 54)⟩] (some [4, 5, 6])
def ir26_13 : IC := .seq ir26_r11 .ret
def ir26_r12 : IC := .reg [⟨some 56, none, false, .mv (.t 7)⟩,
  ⟨some 57, none, false, .cmp .gtr (.t 56) (.k (.int .i64 10000))⟩,
  ⟨some 55, none, false, .mv (.t 57)⟩] (some [0, 1, 4, 7, 8, 55])
def ir26_r13 : IC := .reg [⟨some 58, none, false, .bld [(.int .i64 0), (.slice none 0 0)] []⟩,
  ⟨none, none, false, .st 2 (.t 4) (.t 58)⟩,
  ⟨some 5, none, false, .mv (.k (.int .i64 0))⟩,
  ⟨some 6, none, false, .mv (.k (.int .i64 5))⟩] (some [4, 5, 6])
def ir26_14 : IC := .seq ir26_r13 .ret
def ir26_r14 : IC := .reg [⟨some 60, none, false, .mv (.t 8)⟩,
  ⟨some 61, none, false, .mv (.t 7)⟩,
  ⟨some 62, none, false, .ar .add (.t 60) (.t 61)⟩,
  ⟨some 63, none, false, .ar .add (.t 62) (.k (.int .i64 2))⟩,
  ⟨some 64, none, false, .mv (.t 0)⟩,
  ⟨some 65, none, false, .len (.t 64)⟩,
  ⟨some 66, none, false, .cmp .gtr (.t 63) (.t 65)⟩,
  ⟨some 59, none, false, .mv (.t 66)⟩] (some [0, 1, 4, 7, 8, 59])
def ir26_r15 : IC := .reg [⟨some 67, none, false, .bld [(.int .i64 0), (.slice none 0 0)] []⟩,
  ⟨none, none, false, .st 2 (.t 4) (.t 67)⟩,
  ⟨some 5, none, false, .mv (.k (.int .i64 0))⟩,
  ⟨some 6, none, false, .mv (.k (.int .i64 60))⟩] (some [4, 5, 6])
def ir26_15 : IC := .seq ir26_r15 .ret
def ir26_16 : IC := .cond (.t 59) ir26_15 .skip
def ir26_17 : IC := .seq ir26_r14 ir26_16
def ir26_18 : IC := .cond (.t 55) ir26_14 ir26_17
def ir26_19 : IC := .seq ir26_r12 ir26_18
def ir26_20 : IC := .cond (.t 50) ir26_13 ir26_19
def ir26_21 : IC := .seq ir26_r10 ir26_20
def ir26_22 : IC := .block 0 ir26_21
def ir26_r16 : IC := .reg [⟨some 68, none, false, .mv (.t 0)⟩,
  ⟨some 69, none, false, .mv (.t 1)⟩,
  ⟨some 70, none, false, .mv (.t 8)⟩,
  ⟨some 71, none, false, .mv (.t 7)⟩,
  ⟨some 72, none, false, .ar .add (.t 70) (.t 71)⟩,
  ⟨some 73, none, false, .gen (.slice 22 (.tmp 68) (some (.tmp 69)) (some (.tmp 72)) none)⟩,
  ⟨some 74, none, false, .call (.f 24) [(.t 73)]⟩,
  ⟨some 10, none, false, .mv (.t 74)⟩] (some [0, 1, 4, 7, 8, 10])
def ir26_r17 : IC := .reg [⟨some 75, none, false, .mv (.t 0)⟩,
  ⟨some 76, none, false, .mv (.t 8)⟩,
  ⟨some 77, none, false, .mv (.t 7)⟩,
  ⟨some 78, none, false, .ar .add (.t 76) (.t 77)⟩,
  ⟨some 79, none, false, .iad 1 (.t 75) (.t 78)⟩,
  ⟨some 80, none, false, .ldc (.t 79)⟩,
  ⟨some 81, none, false, .conv .i64 (.t 80)⟩,
  ⟨some 82, none, false, .mv (.t 10)⟩,
  ⟨some 83, none, false, .div .quo (.t 82) (.k (.int .i64 256))⟩,
  ⟨some 84, none, false, .cmp .neq (.t 81) (.t 83)⟩,
  ⟨some 85, none, false, .mv (.t 84)⟩,
  ⟨some 86, some (85, false), false, .mv (.t 0)⟩,
  ⟨some 87, some (85, false), false, .mv (.t 8)⟩,
  ⟨some 88, some (85, false), false, .mv (.t 7)⟩,
  ⟨some 89, some (85, false), false, .ar .add (.t 87) (.t 88)⟩,
  ⟨some 90, some (85, false), false, .ar .add (.t 89) (.k (.int .i64 1))⟩,
  ⟨some 91, some (85, false), false, .iad 1 (.t 86) (.t 90)⟩,
  ⟨some 92, some (85, false), false, .ldc (.t 91)⟩,
  ⟨some 93, some (85, false), false, .conv .i64 (.t 92)⟩,
  ⟨some 94, some (85, false), false, .mv (.t 10)⟩,
  ⟨some 95, some (85, false), false, .div .rem (.t 94) (.k (.int .i64 256))⟩,
  ⟨some 96, some (85, false), false, .cmp .neq (.t 93) (.t 95)⟩,
  ⟨some 97, none, false, .pick (.t 85) (.k (.bool true)) (.t 96)⟩] (some [0, 1, 4, 7, 8, 97])
def ir26_r18 : IC := .reg [⟨some 98, none, false, .bld [(.int .i64 0), (.slice none 0 0)] []⟩,
  ⟨none, none, false, .st 2 (.t 4) (.t 98)⟩,
  ⟨some 5, none, false, .mv (.k (.int .i64 0))⟩,
  ⟨some 6, none, false, .mv (.k (.int .i64 62))⟩] (some [4, 5, 6])
def ir26_23 : IC := .seq ir26_r18 .ret
def ir26_24 : IC := .cond (.t 97) ir26_23 .skip
def ir26_25 : IC := .seq ir26_r17 ir26_24
def ir26_26 : IC := .seq ir26_r16 ir26_25
def ir26_r19 : IC := .draw [(⟨some 99, none, false, .mv (.t 0)⟩, false, 0, 0),
  (⟨some 100, none, false, .mv (.t 1)⟩, false, 0, 0),
  (⟨some 101, none, false, .iad 1 (.t 99) (.t 100)⟩, false, 3, 0),
  (⟨some 102, none, false, .ldc (.t 101)⟩, false, 7, 4097),
  (⟨some 103, none, false, .conv .i64 (.t 102)⟩, false, 15, 0),
  (⟨some 104, none, false, .bsl 1 0 [] []⟩, false, 0, 4104),
  (⟨some 105, none, false, .mv (.t 0)⟩, false, 0, 0),
  (⟨some 106, none, false, .mv (.t 8)⟩, false, 0, 0),
  (⟨some 107, none, false, .mv (.t 8)⟩, false, 0, 0),
  (⟨some 108, none, false, .mv (.t 7)⟩, false, 0, 0),
  (⟨some 109, none, false, .ar .add (.t 107) (.t 108)⟩, false, 768, 0),
  (⟨some 110, none, false, .gen (.slice 22 (.tmp 105) (some (.tmp 106)) (some (.tmp 109)) none)⟩, false, 1984, 4104),
  (⟨some 111, none, false, .app 1 1 (.t 104) (.t 110)⟩, false, 4064, 4104),
  (⟨some 112, none, false, .bld [(.int .i64 0), (.slice none 0 0)] [(0, 1, (.t 103)), (1, 1, (.t 111))]⟩, false, 8191, 0),
  (⟨some 113, none, false, .mv (.t 8)⟩, false, 0, 0),
  (⟨some 114, none, false, .mv (.t 7)⟩, false, 0, 0),
  (⟨some 115, none, false, .ar .add (.t 113) (.t 114)⟩, false, 49152, 0),
  (⟨some 116, none, false, .ar .add (.t 115) (.k (.int .i64 2))⟩, false, 114688, 0),
  (⟨none, none, false, .st 2 (.t 4) (.t 112)⟩, true, 16383, 0),
  (⟨some 5, none, false, .mv (.t 116)⟩, false, 524287, 0),
  (⟨some 6, none, false, .mv (.k (.int .i64 0))⟩, false, 1048575, 0)] (some [4, 5, 6])
def ir26_27 : IC := .seq ir26_r19 .ret
def ir26_28 : IC := .seq ir26_26 ir26_27
def ir26_29 : IC := .seq ir26_22 ir26_28
def ir26_30 : IC := .seq ir26_r9 ir26_29
def ir26_31 : IC := .seq ir26_12 ir26_30
def ir26_32 : IC := .seq ir26_9 ir26_31
def ir26_33 : IC := .seq ir26_6 ir26_32
def ir26_34 : IC := .seq ir26_3 ir26_33
def ir26_35 : IC := .seq ir26_r0 ir26_34
def ir26 : IC := ir26_35
theorem fn26 : FnIs Tryd.prog 26 ir26 117 [.cell 4 30, .tmp 5, .tmp 6] := ⟨Tryd.f26, Tryd.f26.body.getD .skip, Tryd.func26, by kernel_rfl, by kernel_rfl, by kernel_rfl, by kernel_rfl⟩
theorem rget_c (n c : Nat) (at_ : Int) (xs : List Int) (hn : xs.length = n) (hB : isB xs) (hb : n ≤ 1000000) (hc : n ≤ c) (hco : c < openB) :
    Fc Tryd.prog 26 [.slice (some ⟨1, 0, none⟩) n c, .int .i64 at_] (Hp 2 [none, srB xs]) (gtV 2 (getR xs at_)) ((Hp 2 [none, srB xs]).news [.cells ⟨rows eB (getR xs at_).2.1, 1, true⟩]) := by
  have bad : ∀ (e : Int) {l : Fr} {L : List (Option AObj)}, getR xs at_ = (0, [], 0, e) → resF Tryd.prog l (Hp 2 L) [.cell 4 30, .tmp 5, .tmp 6] = some [.agg #[.int .i64 0, .slice none 0 0], .int .i64 0, .int .i64 e] → EndR Tryd.prog [.cell 4 30, .tmp 5, .tmp 6] 2 [.cells ⟨rows eB (getR xs at_).2.1, 1, true⟩] (gtV 2 (getR xs at_)) .ret l [] (Hp 2 L) := by
    intro e l L h hr
    rw [h]
    exact end_nil (mk := fun s => .tuple #[.agg #[.int .i64 0, s], .int .i64 0, .int .i64 e]) (mvG _ _ _) hr rfl
  refine Fc.introR fn26 (by simp) rfl rfl ?_; simp only [argF]
  refine ITri.seq ?_
  refine ITri.reg pok ?_; simp -implicitDefEqProofs (disch := first | decide | exact of_eq_true (eq_true rfl) | omega | assumption) only [ ↓vcD, vcE, ↓vcG, vcF, evs, evP, evB, intsOf, fillC, Value.cells, pt, Value.oneCell', reduceIte, reduceCtorEq, Nat.reduceEqDiff, Nat.reduceAdd, Nat.reduceMul, Nat.reduceLT, Nat.reduceBEq, Nat.reduceLeDiff, Nat.reduceSub] -- r0 ref.go:122
  refine ITri.seq ?_
  refine ITri.seq ?_
  refine ITri.reg pok ?_; simp -implicitDefEqProofs (disch := first | decide | exact of_eq_true (eq_true rfl) | omega | assumption) only [ ↓vcD, vcE, ↓vcG, vcF, evs, evP, evB, intsOf, fillC, Value.cells, pt, Value.oneCell', reduceIte, reduceCtorEq, Nat.reduceEqDiff, Nat.reduceAdd, Nat.reduceMul, Nat.reduceLT, Nat.reduceBEq, Nat.reduceLeDiff, Nat.reduceSub] -- r1 ref.go:123
  refine ITri.condD (by rfl) (fun h1 => ?_) (fun h1 => ?_) -- %13
  · refine ITri.seq ?_
    refine ITri.reg pok ?_; simp -implicitDefEqProofs (disch := first | decide | exact of_eq_true (eq_true rfl) | omega | assumption) only [ ↓vcD, vcE, ↓vcG, vcF, evs, evP, evB, intsOf, fillC, Value.cells, pt, Value.oneCell', reduceIte, reduceCtorEq, Nat.reduceEqDiff, Nat.reduceAdd, Nat.reduceMul, Nat.reduceLT, Nat.reduceBEq, Nat.reduceLeDiff, Nat.reduceSub] -- r2 ref.go:124
    refine ITri.ret ?_
    exact bad 5 (by unfold getR; rw [hn, if_pos (by omega)]) (resF_agg 2 rfl (by kernel_rfl) (by simp -implicitDefEqProofs (disch := first | decide | exact of_eq_true (eq_true rfl) | omega | assumption) only [↓vcD, vcE, ↓vcG, vcF, evs, evP, evB, intsOf, fillC, Value.cells, pt, Value.oneCell', reduceIte, reduceCtorEq, Nat.reduceEqDiff, Nat.reduceAdd, Nat.reduceMul, Nat.reduceLT, Nat.reduceBEq, Nat.reduceLeDiff, Nat.reduceSub]) (resF_tmp rfl (resF_tmp rfl resF_nil)))
  refine ITri.skip ?_; simp only [SeqQ_normal, BlkQ_normal]
  refine ITri.seq ?_
  refine ITri.seq ?_
  by_cases g1 : at_ < 0
  · refine ITri.reg pok ?_; simp -implicitDefEqProofs (disch := first | decide | exact of_eq_true (eq_true rfl) | omega | assumption) only [g1, decide_true,  ↓vcD, vcE, ↓vcG, vcF, evs, evP, evB, intsOf, fillC, Value.cells, pt, Value.oneCell', reduceIte, reduceCtorEq, Nat.reduceEqDiff, Nat.reduceAdd, Nat.reduceMul, Nat.reduceLT, Nat.reduceBEq, Nat.reduceLeDiff, Nat.reduceSub] -- r3
    refine ITri.cond (v := true) rfl (fun _ => ?_) (fun h => by cases h)
    refine ITri.seq ?_
    refine ITri.reg pok ?_; simp -implicitDefEqProofs (disch := first | decide | exact of_eq_true (eq_true rfl) | omega | assumption) only [ ↓vcD, vcE, ↓vcG, vcF, evs, evP, evB, intsOf, fillC, Value.cells, pt, Value.oneCell', reduceIte, reduceCtorEq, Nat.reduceEqDiff, Nat.reduceAdd, Nat.reduceMul, Nat.reduceLT, Nat.reduceBEq, Nat.reduceLeDiff, Nat.reduceSub]
    refine ITri.ret ?_
    exact bad 3 (by unfold getR; rw [hn, if_neg (by omega), if_pos (by omega)]) (resF_agg 2 rfl (by kernel_rfl) (by simp -implicitDefEqProofs (disch := first | decide | exact of_eq_true (eq_true rfl) | omega | assumption) only [↓vcD, vcE, ↓vcG, vcF, evs, evP, evB, intsOf, fillC, Value.cells, pt, Value.oneCell', reduceIte, reduceCtorEq, Nat.reduceEqDiff, Nat.reduceAdd, Nat.reduceMul, Nat.reduceLT, Nat.reduceBEq, Nat.reduceLeDiff, Nat.reduceSub]) (resF_tmp rfl (resF_tmp rfl resF_nil)))
  by_cases g2 : (n : Int) < at_
  · refine ITri.reg pok ?_; simp -implicitDefEqProofs (disch := first | decide | exact of_eq_true (eq_true rfl) | omega | assumption) only [g1, g2, decide_true, decide_false,  ↓vcD, vcE, ↓vcG, vcF, evs, evP, evB, intsOf, fillC, Value.cells, pt, Value.oneCell', reduceIte, reduceCtorEq, Nat.reduceEqDiff, Nat.reduceAdd, Nat.reduceMul, Nat.reduceLT, Nat.reduceBEq, Nat.reduceLeDiff, Nat.reduceSub]
    refine ITri.cond (v := true) rfl (fun _ => ?_) (fun h => by cases h)
    refine ITri.seq ?_
    refine ITri.reg pok ?_; simp -implicitDefEqProofs (disch := first | decide | exact of_eq_true (eq_true rfl) | omega | assumption) only [ ↓vcD, vcE, ↓vcG, vcF, evs, evP, evB, intsOf, fillC, Value.cells, pt, Value.oneCell', reduceIte, reduceCtorEq, Nat.reduceEqDiff, Nat.reduceAdd, Nat.reduceMul, Nat.reduceLT, Nat.reduceBEq, Nat.reduceLeDiff, Nat.reduceSub]
    refine ITri.ret ?_
    exact bad 3 (by unfold getR; rw [hn, if_neg (by omega), if_pos (by omega)]) (resF_agg 2 rfl (by kernel_rfl) (by simp -implicitDefEqProofs (disch := first | decide | exact of_eq_true (eq_true rfl) | omega | assumption) only [↓vcD, vcE, ↓vcG, vcF, evs, evP, evB, intsOf, fillC, Value.cells, pt, Value.oneCell', reduceIte, reduceCtorEq, Nat.reduceEqDiff, Nat.reduceAdd, Nat.reduceMul, Nat.reduceLT, Nat.reduceBEq, Nat.reduceLeDiff, Nat.reduceSub]) (resF_tmp rfl (resF_tmp rfl resF_nil)))
  obtain ⟨k, rfl⟩ := Int.eq_ofNat_of_zero_le (show 0 ≤ at_ by omega)
  have hk : k ≤ n := by omega
  have e0 : getR xs k = match frF xs k with
    | .ok kd a m nx => (kd, sub xs a m, (nx : Int), 0)
    | .err e _ => (0, [], 0, e) := by
    unfold getR
    rw [hn, if_neg (by omega), if_neg (by omega), Int.toNat_natCast]
    rfl
  refine ITri.reg pok ?_; simp -implicitDefEqProofs (disch := first | decide | exact of_eq_true (eq_true rfl) | omega | assumption) only [g1, g2, decide_false,  ↓vcD, vcE, ↓vcG, vcF, evs, evP, evB, intsOf, fillC, Value.cells, pt, Value.oneCell', reduceIte, reduceCtorEq, Nat.reduceEqDiff, Nat.reduceAdd, Nat.reduceMul, Nat.reduceLT, Nat.reduceBEq, Nat.reduceLeDiff, Nat.reduceSub]
  refine ITri.cond (v := false) rfl (fun h => by cases h) (fun _ => ?_); refine ITri.skip ?_; simp only [SeqQ_normal, BlkQ_normal]
  unfold frF at e0
  rw [hn] at e0
  refine ITri.seq ?_
  refine ITri.seq ?_
  refine ITri.reg pok ?_; simp -implicitDefEqProofs (disch := first | decide | exact of_eq_true (eq_true rfl) | omega | assumption) only [ ↓vcD, vcE, ↓vcG, vcF, evs, evP, evB, intsOf, fillC, Value.cells, pt, Value.oneCell', reduceIte, reduceCtorEq, Nat.reduceEqDiff, Nat.reduceAdd, Nat.reduceMul, Nat.reduceLT, Nat.reduceBEq, Nat.reduceLeDiff, Nat.reduceSub] -- r5 ref.go:129
  refine ITri.condD (by rfl) (fun h3 => ?_) (fun h3 => ?_) -- %27
  · refine ITri.seq ?_
    refine ITri.reg pok ?_; simp -implicitDefEqProofs (disch := first | decide | exact of_eq_true (eq_true rfl) | omega | assumption) only [ ↓vcD, vcE, ↓vcG, vcF, evs, evP, evB, intsOf, fillC, Value.cells, pt, Value.oneCell', reduceIte, reduceCtorEq, Nat.reduceEqDiff, Nat.reduceAdd, Nat.reduceMul, Nat.reduceLT, Nat.reduceBEq, Nat.reduceLeDiff, Nat.reduceSub] -- r6 ref.go:130
    refine ITri.ret ?_
    exact bad 60 (by rw [e0, if_pos (by omega)]) (resF_agg 2 rfl (by kernel_rfl) (by simp -implicitDefEqProofs (disch := first | decide | exact of_eq_true (eq_true rfl) | omega | assumption) only [↓vcD, vcE, ↓vcG, vcF, evs, evP, evB, intsOf, fillC, Value.cells, pt, Value.oneCell', reduceIte, reduceCtorEq, Nat.reduceEqDiff, Nat.reduceAdd, Nat.reduceMul, Nat.reduceLT, Nat.reduceBEq, Nat.reduceLeDiff, Nat.reduceSub]) (resF_tmp rfl (resF_tmp rfl resF_nil)))
  rw [if_neg (by omega)] at e0
  have hkx : k < xs.length := by omega
  have hg := getB hkx
  have hv := hB _ (nth_mem hkx)
  generalize hx0 : nth xs k = x0 at *
  refine ITri.skip ?_; simp only [SeqQ_normal, BlkQ_normal]
  refine ITri.seq ?_
  refine ITri.seq ?_
  by_cases g3 : x0 < 1
  · refine ITri.reg pok ?_; simp -implicitDefEqProofs (disch := first | decide | exact of_eq_true (eq_true rfl) | omega | assumption) only [hg, g3, decide_true,  ↓vcD, vcE, ↓vcG, vcF, evs, evP, evB, intsOf, fillC, Value.cells, pt, Value.oneCell', reduceIte, reduceCtorEq, Nat.reduceEqDiff, Nat.reduceAdd, Nat.reduceMul, Nat.reduceLT, Nat.reduceBEq, Nat.reduceLeDiff, Nat.reduceSub] -- r7
    refine ITri.cond (v := true) rfl (fun _ => ?_) (fun h => by cases h)
    refine ITri.seq ?_
    refine ITri.reg pok ?_; simp -implicitDefEqProofs (disch := first | decide | exact of_eq_true (eq_true rfl) | omega | assumption) only [ ↓vcD, vcE, ↓vcG, vcF, evs, evP, evB, intsOf, fillC, Value.cells, pt, Value.oneCell', reduceIte, reduceCtorEq, Nat.reduceEqDiff, Nat.reduceAdd, Nat.reduceMul, Nat.reduceLT, Nat.reduceBEq, Nat.reduceLeDiff, Nat.reduceSub]
    refine ITri.ret ?_
    exact bad 4 (by rw [e0, if_pos (by omega)]) (resF_agg 2 rfl (by kernel_rfl) (by simp -implicitDefEqProofs (disch := first | decide | exact of_eq_true (eq_true rfl) | omega | assumption) only [↓vcD, vcE, ↓vcG, vcF, evs, evP, evB, intsOf, fillC, Value.cells, pt, Value.oneCell', reduceIte, reduceCtorEq, Nat.reduceEqDiff, Nat.reduceAdd, Nat.reduceMul, Nat.reduceLT, Nat.reduceBEq, Nat.reduceLeDiff, Nat.reduceSub]) (resF_tmp rfl (resF_tmp rfl resF_nil)))
  by_cases g4 : 250 < x0
  · refine ITri.reg pok ?_; simp -implicitDefEqProofs (disch := first | decide | exact of_eq_true (eq_true rfl) | omega | assumption) only [hg, g3, g4, decide_true, decide_false,  ↓vcD, vcE, ↓vcG, vcF, evs, evP, evB, intsOf, fillC, Value.cells, pt, Value.oneCell', reduceIte, reduceCtorEq, Nat.reduceEqDiff, Nat.reduceAdd, Nat.reduceMul, Nat.reduceLT, Nat.reduceBEq, Nat.reduceLeDiff, Nat.reduceSub]
    refine ITri.cond (v := true) rfl (fun _ => ?_) (fun h => by cases h)
    refine ITri.seq ?_
    refine ITri.reg pok ?_; simp -implicitDefEqProofs (disch := first | decide | exact of_eq_true (eq_true rfl) | omega | assumption) only [ ↓vcD, vcE, ↓vcG, vcF, evs, evP, evB, intsOf, fillC, Value.cells, pt, Value.oneCell', reduceIte, reduceCtorEq, Nat.reduceEqDiff, Nat.reduceAdd, Nat.reduceMul, Nat.reduceLT, Nat.reduceBEq, Nat.reduceLeDiff, Nat.reduceSub]
    refine ITri.ret ?_
    exact bad 4 (by rw [e0, if_pos (by omega)]) (resF_agg 2 rfl (by kernel_rfl) (by simp -implicitDefEqProofs (disch := first | decide | exact of_eq_true (eq_true rfl) | omega | assumption) only [↓vcD, vcE, ↓vcG, vcF, evs, evP, evB, intsOf, fillC, Value.cells, pt, Value.oneCell', reduceIte, reduceCtorEq, Nat.reduceEqDiff, Nat.reduceAdd, Nat.reduceMul, Nat.reduceLT, Nat.reduceBEq, Nat.reduceLeDiff, Nat.reduceSub]) (resF_tmp rfl (resF_tmp rfl resF_nil)))
  rw [if_neg (by omega)] at e0
  refine ITri.reg pok ?_; simp -implicitDefEqProofs (disch := first | decide | exact of_eq_true (eq_true rfl) | omega | assumption) only [hg, g3, g4, decide_false,  ↓vcD, vcE, ↓vcG, vcF, evs, evP, evB, intsOf, fillC, Value.cells, pt, Value.oneCell', reduceIte, reduceCtorEq, Nat.reduceEqDiff, Nat.reduceAdd, Nat.reduceMul, Nat.reduceLT, Nat.reduceBEq, Nat.reduceLeDiff, Nat.reduceSub]
  refine ITri.cond (v := false) rfl (fun h => by cases h) (fun _ => ?_); refine ITri.skip ?_; simp only [SeqQ_normal, BlkQ_normal]
  have hk1 : ((k : Int) + 1) = ((k + 1 : Nat) : Int) := by omega
  have r0 : resN xs 1000000000000000 id ((k + 1 : Nat) : Int) = match numG xs 1000000000000000 (k + 1) 9 0 with
    | .ok v nx => (v, (nx : Int), 0)
    | .err e _ => (0, 0, e) := by
    unfold resN
    rw [hn, if_neg (by omega), if_neg (by omega), Int.toNat_natCast]
    rfl
  refine ITri.seq ?_
  refine ITri.reg pok ?_; simp -implicitDefEqProofs (disch := first | decide | exact of_eq_true (eq_true rfl) | omega | assumption) only [hk1,  ↓vcD, vcE, ↓vcG, vcF, evs, evP, evB, intsOf, fillC, Value.cells, pt, Value.oneCell', reduceIte, reduceCtorEq, Nat.reduceEqDiff, Nat.reduceAdd, Nat.reduceMul, Nat.reduceLT, Nat.reduceBEq, Nat.reduceLeDiff, Nat.reduceSub] -- r9 ref.go:135 CALLS .call F54 [%43, %45]
  refine ⟨_, _, plain_f _ hn hB hb (sees0 rfl (of_decide_eq_true rfl)) (get_hq rfl rfl), ?_⟩
  rw [r0]
  cases hr : numG xs 1000000000000000 (k + 1) 9 0 with
  | err e nx =>
    have he := numG_e 9 0 hr
    rw [hr] at e0
    try simp -implicitDefEqProofs (disch := first | decide | exact of_eq_true (eq_true rfl) | omega | assumption) only [ ↓vcD, vcE, ↓vcG, vcF, evs, evP, evB, intsOf, fillC, Value.cells, pt, Value.oneCell', reduceIte, reduceCtorEq, Nat.reduceEqDiff, Nat.reduceAdd, Nat.reduceMul, Nat.reduceLT, Nat.reduceBEq, Nat.reduceLeDiff, Nat.reduceSub]
    refine ITri.seq ?_
    refine ITri.block ?_ -- 0
    refine ITri.seq ?_
    refine ITri.reg pok ?_; simp -implicitDefEqProofs (disch := first | decide | exact of_eq_true (eq_true rfl) | omega | assumption) only [he, decide_false, Bool.not_false,  ↓vcD, vcE, ↓vcG, vcF, evs, evP, evB, intsOf, fillC, Value.cells, pt, Value.oneCell', reduceIte, reduceCtorEq, Nat.reduceEqDiff, Nat.reduceAdd, Nat.reduceMul, Nat.reduceLT, Nat.reduceBEq, Nat.reduceLeDiff, Nat.reduceSub] -- r10 ref.go:137
    refine ITri.cond (v := true) rfl (fun _ => ?_) (fun h => by cases h)
    refine ITri.seq ?_
    refine ITri.reg pok ?_; simp -implicitDefEqProofs (disch := first | decide | exact of_eq_true (eq_true rfl) | omega | assumption) only [ ↓vcD, vcE, ↓vcG, vcF, evs, evP, evB, intsOf, fillC, Value.cells, pt, Value.oneCell', reduceIte, reduceCtorEq, Nat.reduceEqDiff, Nat.reduceAdd, Nat.reduceMul, Nat.reduceLT, Nat.reduceBEq, Nat.reduceLeDiff, Nat.reduceSub] -- r11 ref.go:138
    refine ITri.ret ?_
    exact bad e e0 (resF_agg 2 rfl (by kernel_rfl) (by simp -implicitDefEqProofs (disch := first | decide | exact of_eq_true (eq_true rfl) | omega | assumption) only [↓vcD, vcE, ↓vcG, vcF, evs, evP, evB, intsOf, fillC, Value.cells, pt, Value.oneCell', reduceIte, reduceCtorEq, Nat.reduceEqDiff, Nat.reduceAdd, Nat.reduceMul, Nat.reduceLT, Nat.reduceBEq, Nat.reduceLeDiff, Nat.reduceSub]) (resF_tmp rfl (resF_tmp rfl resF_nil)))
  | ok v nx =>
    obtain ⟨b1, b2, b3, b4, b5⟩ := numG_bd 9 0 (by omega) hr
    rw [hr] at e0
    obtain ⟨m, rfl⟩ := Int.eq_ofNat_of_zero_le b1
    simp only [Int.toNat_natCast] at e0
    try simp -implicitDefEqProofs (disch := first | decide | exact of_eq_true (eq_true rfl) | omega | assumption) only [ ↓vcD, vcE, ↓vcG, vcF, evs, evP, evB, intsOf, fillC, Value.cells, pt, Value.oneCell', reduceIte, reduceCtorEq, Nat.reduceEqDiff, Nat.reduceAdd, Nat.reduceMul, Nat.reduceLT, Nat.reduceBEq, Nat.reduceLeDiff, Nat.reduceSub]
    refine ITri.seq ?_
    refine ITri.block ?_ -- 0
    refine ITri.seq ?_
    refine ITri.reg pok ?_; simp -implicitDefEqProofs (disch := first | decide | exact of_eq_true (eq_true rfl) | omega | assumption) only [decide_true, Bool.not_true,  ↓vcD, vcE, ↓vcG, vcF, evs, evP, evB, intsOf, fillC, Value.cells, pt, Value.oneCell', reduceIte, reduceCtorEq, Nat.reduceEqDiff, Nat.reduceAdd, Nat.reduceMul, Nat.reduceLT, Nat.reduceBEq, Nat.reduceLeDiff, Nat.reduceSub] -- r10 ref.go:137
    refine ITri.cond (v := false) rfl (fun h => by cases h) (fun _ => ?_)
    refine ITri.seq ?_
    refine ITri.reg pok ?_; simp -implicitDefEqProofs (disch := first | decide | exact of_eq_true (eq_true rfl) | omega | assumption) only [ ↓vcD, vcE, ↓vcG, vcF, evs, evP, evB, intsOf, fillC, Value.cells, pt, Value.oneCell', reduceIte, reduceCtorEq, Nat.reduceEqDiff, Nat.reduceAdd, Nat.reduceMul, Nat.reduceLT, Nat.reduceBEq, Nat.reduceLeDiff, Nat.reduceSub] -- r12 ref.go:139
    refine ITri.condD (by rfl) (fun h6 => ?_) (fun h6 => ?_) -- %55
    · refine ITri.seq ?_
      refine ITri.reg pok ?_; simp -implicitDefEqProofs (disch := first | decide | exact of_eq_true (eq_true rfl) | omega | assumption) only [ ↓vcD, vcE, ↓vcG, vcF, evs, evP, evB, intsOf, fillC, Value.cells, pt, Value.oneCell', reduceIte, reduceCtorEq, Nat.reduceEqDiff, Nat.reduceAdd, Nat.reduceMul, Nat.reduceLT, Nat.reduceBEq, Nat.reduceLeDiff, Nat.reduceSub] -- r13 ref.go:140
      refine ITri.ret ?_
      exact bad 5 (by rw [e0, if_pos (by omega)]) (resF_agg 2 rfl (by kernel_rfl) (by simp -implicitDefEqProofs (disch := first | decide | exact of_eq_true (eq_true rfl) | omega | assumption) only [↓vcD, vcE, ↓vcG, vcF, evs, evP, evB, intsOf, fillC, Value.cells, pt, Value.oneCell', reduceIte, reduceCtorEq, Nat.reduceEqDiff, Nat.reduceAdd, Nat.reduceMul, Nat.reduceLT, Nat.reduceBEq, Nat.reduceLeDiff, Nat.reduceSub]) (resF_tmp rfl (resF_tmp rfl resF_nil)))
    rw [if_neg (by omega)] at e0
    refine ITri.seq ?_
    refine ITri.reg pok ?_; simp -implicitDefEqProofs (disch := first | decide | exact of_eq_true (eq_true rfl) | omega | assumption) only [ ↓vcD, vcE, ↓vcG, vcF, evs, evP, evB, intsOf, fillC, Value.cells, pt, Value.oneCell', reduceIte, reduceCtorEq, Nat.reduceEqDiff, Nat.reduceAdd, Nat.reduceMul, Nat.reduceLT, Nat.reduceBEq, Nat.reduceLeDiff, Nat.reduceSub] -- r14 ref.go:141
    refine ITri.condD (by rfl) (fun h7 => ?_) (fun h7 => ?_) -- %59
    · refine ITri.seq ?_
      refine ITri.reg pok ?_; simp -implicitDefEqProofs (disch := first | decide | exact of_eq_true (eq_true rfl) | omega | assumption) only [ ↓vcD, vcE, ↓vcG, vcF, evs, evP, evB, intsOf, fillC, Value.cells, pt, Value.oneCell', reduceIte, reduceCtorEq, Nat.reduceEqDiff, Nat.reduceAdd, Nat.reduceMul, Nat.reduceLT, Nat.reduceBEq, Nat.reduceLeDiff, Nat.reduceSub] -- r15 ref.go:142
      refine ITri.ret ?_
      exact bad 60 (by rw [e0, if_pos (by omega)]) (resF_agg 2 rfl (by kernel_rfl) (by simp -implicitDefEqProofs (disch := first | decide | exact of_eq_true (eq_true rfl) | omega | assumption) only [↓vcD, vcE, ↓vcG, vcF, evs, evP, evB, intsOf, fillC, Value.cells, pt, Value.oneCell', reduceIte, reduceCtorEq, Nat.reduceEqDiff, Nat.reduceAdd, Nat.reduceMul, Nat.reduceLT, Nat.reduceBEq, Nat.reduceLeDiff, Nat.reduceSub]) (resF_tmp rfl (resF_tmp rfl resF_nil)))
    rw [if_neg (by omega)] at e0
    have hs1 : ((nx : Int) + m) = ((nx + m : Nat) : Int) := by omega
    have hs2 : (((nx + m : Nat) : Int) + 1) = ((nx + m + 1 : Nat) : Int) := by omega
    have hsl := sub_len (xs := xs) (a := k) (m := nx + m - k) (by omega)
    have hby := bys_sub (a := k) (m := nx + m - k) (bys_rows xs) (by omega)
    rw [Nat.zero_add] at hby
    have hgA := getB (xs := xs) (i := nx + m) (by omega)
    have hgB := getB (xs := xs) (i := nx + m + 1) (by omega)
    have hvA := hB _ (nth_mem (xs := xs) (i := nx + m) (by omega))
    have hvB := hB _ (nth_mem (xs := xs) (i := nx + m + 1) (by omega))
    refine ITri.skip ?_; simp only [SeqQ_normal, BlkQ_normal]
    refine ITri.seq ?_
    refine ITri.seq ?_
    refine ITri.reg pok ?_; simp -implicitDefEqProofs (disch := first | decide | exact of_eq_true (eq_true rfl) | omega | assumption) only [hs1,  ↓vcD, vcE, ↓vcG, vcF, evs, evP, evB, intsOf, fillC, Value.cells, pt, Value.oneCell', reduceIte, reduceCtorEq, Nat.reduceEqDiff, Nat.reduceAdd, Nat.reduceMul, Nat.reduceLT, Nat.reduceBEq, Nat.reduceLeDiff, Nat.reduceSub] -- r16 ref.go:144 CALLS .call F24 [%73]
    refine gen_2 (a := k) (m := nx + m - k) u_slB i_u8 sz_u8 rfl rfl rfl rfl (by omega) (by omega) (fun _ => hc) (by omega) fun c' _ => ?_
    try simp -implicitDefEqProofs (disch := first | decide | exact of_eq_true (eq_true rfl) | omega | assumption) only [ ↓vcD, vcE, ↓vcG, vcF, evs, evP, evB, intsOf, fillC, Value.cells, pt, Value.oneCell', reduceIte, reduceCtorEq, Nat.reduceEqDiff, Nat.reduceAdd, Nat.reduceMul, Nat.reduceLT, Nat.reduceBEq, Nat.reduceLeDiff, Nat.reduceSub]
    refine ⟨_, _, rcheck_x (L := [none, srB xs, _]) rfl hby (sub_B hB) hsl (by omega), ?_⟩
    have hc1 : crc (sub xs k (nx + m - k)) < 65536 := crc_lt _
    generalize crc (sub xs k (nx + m - k)) = cr at *
    generalize nth xs (nx + m) = yA at *
    generalize nth xs (nx + m + 1) = yB at *
    have f1 : dvI .quo (cr : Int) 256 = ((cr / 256 : Nat) : Int) := rfl
    have f2 : dvI .rem (cr : Int) 256 = ((cr % 256 : Nat) : Int) := rfl
    try simp -implicitDefEqProofs (disch := first | decide | exact of_eq_true (eq_true rfl) | omega | assumption) only [ ↓vcD, vcE, ↓vcG, vcF, evs, evP, evB, intsOf, fillC, Value.cells, pt, Value.oneCell', reduceIte, reduceCtorEq, Nat.reduceEqDiff, Nat.reduceAdd, Nat.reduceMul, Nat.reduceLT, Nat.reduceBEq, Nat.reduceLeDiff, Nat.reduceSub]
    refine ITri.seq ?_
    by_cases g5 : yA = ((cr / 256 : Nat) : Int)
    · by_cases g6 : yB = ((cr % 256 : Nat) : Int)
      · rw [if_neg (by omega)] at e0
        refine ITri.reg pok ?_; simp -implicitDefEqProofs (disch := first | decide | exact of_eq_true (eq_true rfl) | omega | assumption) only [hgA, hgB, hs1, hs2, f1, f2, g5, g6, decide_true, Bool.not_true,  ↓vcD, vcE, ↓vcG, vcF, evs, evP, evB, intsOf, fillC, Value.cells, pt, Value.oneCell', reduceIte, reduceCtorEq, Nat.reduceEqDiff, Nat.reduceAdd, Nat.reduceMul, Nat.reduceLT, Nat.reduceBEq, Nat.reduceLeDiff, Nat.reduceSub] -- r17
        refine ITri.cond (v := false) rfl (fun h => by cases h) (fun _ => ?_); refine ITri.skip ?_; simp only [SeqQ_normal, BlkQ_normal]
        have hsm := sub_len (xs := xs) (a := nx) (m := m) (by omega)
        have e1 : (getR xs k).2.1 = sub xs nx m := by rw [e0]
        have e2 : gtV 2 (getR xs k) = .tuple #[.agg #[.int .i64 x0, sO 2 m], .int .i64 (nx + m + 2 : Nat), .int .i64 0] := by rw [e0, gtV, hsm]
        have hs3 : (((nx + m : Nat) : Int) + 2) = ((nx + m + 2 : Nat) : Int) := by omega
        rw [e1, e2]
        refine ITri.seq ?_
        by_cases hm0 : m = 0
        · subst hm0
          have hs0 : sub xs nx 0 = [] := List.eq_nil_of_length_eq_zero hsm
          rw [hs0]
          refine ITri.draw pok ?_; simp -implicitDefEqProofs (disch := first | decide | exact of_eq_true (eq_true rfl) | omega | assumption) only [hg, hs1, hs3,  ↓vcD, vcE, ↓vcG, vcF, evs, evP, evB, intsOf, fillC, Value.cells, pt, Value.oneCell', reduceIte, reduceCtorEq, Nat.reduceEqDiff, Nat.reduceAdd, Nat.reduceMul, Nat.reduceLT, Nat.reduceBEq, Nat.reduceLeDiff, Nat.reduceSub]
          refine gen_2z (a := nx) u_slB i_u8 sz_u8 rfl rfl rfl rfl (by omega) (by omega) hco hc fun o' c' => ?_
          simp -implicitDefEqProofs (disch := first | decide | exact of_eq_true (eq_true rfl) | omega | assumption) only [appK_0, hs1, hs3,  ↓vcD, vcE, ↓vcG, vcF, evs, evP, evB, intsOf, fillC, Value.cells, pt, Value.oneCell', reduceIte, reduceCtorEq, Nat.reduceEqDiff, Nat.reduceAdd, Nat.reduceMul, Nat.reduceLT, Nat.reduceBEq, Nat.reduceLeDiff, Nat.reduceSub]
          refine ITri.ret ?_
          exact end_room (k := 3) (cs := []) (op := false) (n := 0) (mk := fun s => .tuple #[.agg #[.int .i64 x0, s], .int .i64 (nx + 0 + 2 : Nat), .int .i64 0]) 0 (mvG _ _ _) (by decide) (by decide) (by decide) rfl rfl (by decide) (by simp) (resF_agg 2 rfl (by kernel_rfl) (by simp -implicitDefEqProofs (disch := first | decide | exact of_eq_true (eq_true rfl) | omega | assumption) only [↓vcD, vcE, ↓vcG, vcF, evs, evP, evB, intsOf, fillC, Value.cells, pt, Value.oneCell', reduceIte, reduceCtorEq, Nat.reduceEqDiff, Nat.reduceAdd, Nat.reduceMul, Nat.reduceLT, Nat.reduceBEq, Nat.reduceLeDiff, Nat.reduceSub]) (resF_tmp rfl (resF_tmp rfl resF_nil))) rfl
        · have hby2 := bys_sub (a := nx) (m := m) (bys_rows xs) (by omega)
          rw [Nat.zero_add] at hby2
          have ht := bys_take hby2
          rw [hsm] at ht
          have hT : takeC (rows eB xs) nx m = some (rows eB (sub xs nx m)) := by rw [takeC_eq _ _ _ (by rw [rows_len]; omega), ht]
          refine ITri.draw pok ?_; simp -implicitDefEqProofs (disch := first | decide | exact of_eq_true (eq_true rfl) | omega | assumption) only [hg, hs1, hs3,  ↓vcD, vcE, ↓vcG, vcF, evs, evP, evB, intsOf, fillC, Value.cells, pt, Value.oneCell', reduceIte, reduceCtorEq, Nat.reduceEqDiff, Nat.reduceAdd, Nat.reduceMul, Nat.reduceLT, Nat.reduceBEq, Nat.reduceLeDiff, Nat.reduceSub]
          refine gen_2 (a := nx) (m := m) u_slB i_u8 sz_u8 rfl rfl rfl rfl (by omega) (by omega) (fun _ => hc) (by omega) fun c' _ => ?_
          simp -implicitDefEqProofs (disch := first | decide | exact of_eq_true (eq_true rfl) | omega | assumption) only [hT, rows_allT, hs1, hs3,  ↓vcD, vcE, ↓vcG, vcF, evs, evP, evB, intsOf, fillC, Value.cells, pt, Value.oneCell', reduceIte, reduceCtorEq, Nat.reduceEqDiff, Nat.reduceAdd, Nat.reduceMul, Nat.reduceLT, Nat.reduceBEq, Nat.reduceLeDiff, Nat.reduceSub]
          refine ITri.ret ?_
          exact end_mk (k := 4) (n := m) (mk := fun s => .tuple #[.agg #[.int .i64 x0, s], .int .i64 (nx + m + 2 : Nat), .int .i64 0]) (mvG _ _ _) (by decide) (rows_no (f := eB) _) rfl (resF_agg 2 rfl (by kernel_rfl) (by simp -implicitDefEqProofs (disch := first | decide | exact of_eq_true (eq_true rfl) | omega | assumption) only [↓vcD, vcE, ↓vcG, vcF, evs, evP, evB, intsOf, fillC, Value.cells, pt, Value.oneCell', reduceIte, reduceCtorEq, Nat.reduceEqDiff, Nat.reduceAdd, Nat.reduceMul, Nat.reduceLT, Nat.reduceBEq, Nat.reduceLeDiff, Nat.reduceSub]) (resF_tmp rfl (resF_tmp rfl resF_nil))) rfl
      · refine ITri.reg pok ?_; simp -implicitDefEqProofs (disch := first | decide | exact of_eq_true (eq_true rfl) | omega | assumption) only [hgA, hgB, hs1, hs2, f1, f2, g5, g6, decide_true, decide_false, Bool.not_true, Bool.not_false,  ↓vcD, vcE, ↓vcG, vcF, evs, evP, evB, intsOf, fillC, Value.cells, pt, Value.oneCell', reduceIte, reduceCtorEq, Nat.reduceEqDiff, Nat.reduceAdd, Nat.reduceMul, Nat.reduceLT, Nat.reduceBEq, Nat.reduceLeDiff, Nat.reduceSub] -- r17
        refine ITri.cond (v := true) rfl (fun _ => ?_) (fun h => by cases h)
        refine ITri.seq ?_
        refine ITri.reg pok ?_; simp -implicitDefEqProofs (disch := first | decide | exact of_eq_true (eq_true rfl) | omega | assumption) only [ ↓vcD, vcE, ↓vcG, vcF, evs, evP, evB, intsOf, fillC, Value.cells, pt, Value.oneCell', reduceIte, reduceCtorEq, Nat.reduceEqDiff, Nat.reduceAdd, Nat.reduceMul, Nat.reduceLT, Nat.reduceBEq, Nat.reduceLeDiff, Nat.reduceSub]
        refine ITri.ret ?_
        exact bad 62 (by rw [e0, if_pos (by omega)]) (resF_agg 2 rfl (by kernel_rfl) (by simp -implicitDefEqProofs (disch := first | decide | exact of_eq_true (eq_true rfl) | omega | assumption) only [↓vcD, vcE, ↓vcG, vcF, evs, evP, evB, intsOf, fillC, Value.cells, pt, Value.oneCell', reduceIte, reduceCtorEq, Nat.reduceEqDiff, Nat.reduceAdd, Nat.reduceMul, Nat.reduceLT, Nat.reduceBEq, Nat.reduceLeDiff, Nat.reduceSub]) (resF_tmp rfl (resF_tmp rfl resF_nil)))
    · refine ITri.reg pok ?_; simp -implicitDefEqProofs (disch := first | decide | exact of_eq_true (eq_true rfl) | omega | assumption) only [hgA, hgB, hs1, hs2, f1, f2, g5, decide_false, Bool.not_false,  ↓vcD, vcE, ↓vcG, vcF, evs, evP, evB, intsOf, fillC, Value.cells, pt, Value.oneCell', reduceIte, reduceCtorEq, Nat.reduceEqDiff, Nat.reduceAdd, Nat.reduceMul, Nat.reduceLT, Nat.reduceBEq, Nat.reduceLeDiff, Nat.reduceSub] -- r17
      refine ITri.cond (v := true) rfl (fun _ => ?_) (fun h => by cases h)
      refine ITri.seq ?_
      refine ITri.reg pok ?_; simp -implicitDefEqProofs (disch := first | decide | exact of_eq_true (eq_true rfl) | omega | assumption) only [ ↓vcD, vcE, ↓vcG, vcF, evs, evP, evB, intsOf, fillC, Value.cells, pt, Value.oneCell', reduceIte, reduceCtorEq, Nat.reduceEqDiff, Nat.reduceAdd, Nat.reduceMul, Nat.reduceLT, Nat.reduceBEq, Nat.reduceLeDiff, Nat.reduceSub]
      refine ITri.ret ?_
      exact bad 62 (by rw [e0, if_pos (by omega)]) (resF_agg 2 rfl (by kernel_rfl) (by simp -implicitDefEqProofs (disch := first | decide | exact of_eq_true (eq_true rfl) | omega | assumption) only [↓vcD, vcE, ↓vcG, vcF, evs, evP, evB, intsOf, fillC, Value.cells, pt, Value.oneCell', reduceIte, reduceCtorEq, Nat.reduceEqDiff, Nat.reduceAdd, Nat.reduceMul, Nat.reduceLT, Nat.reduceBEq, Nat.reduceLeDiff, Nat.reduceSub]) (resF_tmp rfl (resF_tmp rfl resF_nil)))
end Go.Proofs.YtgjokhodccacoaaDoor
