/-
  Chapter 4 at the top: CheckRun, both, runOf.
-/
import Derived.Test.YteddklolpcpjaaaGrA
import Derived.Test.YteddklolpcpjaaaGrC
set_option linter.unusedSimpArgs false
set_option linter.unusedVariables false
namespace Go.Vm
open Go Go.RowKit
theorem MkL.cons {v : Value} {mk : List Value → List Value} (hv : noAddr v = true) (h : MkL mk) : MkL (fun ss => v :: mk ss) :=
  ⟨fun ψ ss => by simp only [mwL, mw_noAddr _ _ hv, h.mw], fun ξ B ss hs => ⟨okM_noAddr _ _ _ hv, h.ok ξ B ss hs⟩⟩
/-- The results: a struct of three own rows and a number. -/
theorem end_run {P : Program} {rs : List ResultVar} {l : Fr} {L : List (Option AObj)} {n m q a b c : Nat} {e : Int} {cs ds es : List Value} (hno : noAddrL cs = true) (hno2 : noAddrL ds = true) (hno3 : noAddrL es = true) (hL : L[5]? = some (some (.cells ⟨cs, a, true⟩))) (hL2 : L[6]? = some (some (.cells ⟨ds, b, true⟩))) (hL3 : L[7]? = some (some (.cells ⟨es, c, true⟩)))
    (hr : resF P l (Hp 4 L) rs = some [.agg ⟨[.slice (some ⟨5, 0, none⟩) n openB, .int .i64 e, .slice (some ⟨6, 0, none⟩) m openB, .slice (some ⟨7, 0, none⟩) q openB]⟩]) :
    EndR P rs 4 [.cells ⟨cs, a, true⟩, .cells ⟨ds, b, true⟩, .cells ⟨es, c, true⟩] (.agg #[.slice (some ⟨4, 0, none⟩) n openB, .int .i64 e, .slice (some ⟨5, 0, none⟩) m openB, .slice (some ⟨6, 0, none⟩) q openB]) .ret l [] (Hp 4 L) := by
  refine ⟨by simp, rfl, _, [5, 6, 7], [], hr, rfl, by decide, by decide, (fun p hp => by cases hp), ?_, ?_, fun i o2 h => .inr ?_⟩
  · rfl
  · exact ⟨⟨by simp, trivial⟩, trivial, ⟨by simp, trivial⟩, ⟨by simp, trivial⟩, trivial⟩
  · match i, h with
    | 0, h =>
      cases h
      refine ⟨(by intro e; cases e), _, (by show (Hp 4 L).get 5 = _; rw [Hp_get, hL]; rfl), ?_⟩
      exact ⟨(mvL_noAddr _ _ _ hno).symm, okML_noAddr _ _ _ hno, fun e => e, fun e => ⟨e, rfl⟩⟩
    | 1, h =>
      cases h
      refine ⟨(by intro e; cases e), _, (by show (Hp 4 L).get 6 = _; rw [Hp_get, hL2]; rfl), ?_⟩
      exact ⟨(mvL_noAddr _ _ _ hno2).symm, okML_noAddr _ _ _ hno2, fun e => e, fun e => ⟨e, rfl⟩⟩
    | 2, h =>
      cases h
      refine ⟨(by intro e; cases e), _, (by show (Hp 4 L).get 7 = _; rw [Hp_get, hL3]; rfl), ?_⟩
      exact ⟨(mvL_noAddr _ _ _ hno3).symm, okML_noAddr _ _ _ hno3, fun e => e, fun e => ⟨e, rfl⟩⟩
end Go.Vm
namespace Go.Proofs.Yteddklolpcpjaaa
open Go.RowKit Go.Vm
set_option maxRecDepth 1000000
def eM (x : Sm) : List Value := [I6 x.a, I6 x.l, I6 x.h]
instance flM : FlatE eM 3 := ⟨fun _ => rfl, fun _ => rfl, fun _ => rfl⟩
theorem takeT {xs : List St} {i : Nat} (hi : i < xs.length) : takeC (rows eT xs) (i * 8) 8 = some (eT (nth xs i)) := rows_takeC (f := eT) hi
theorem takeM {xs : List Sm} {i : Nat} (hi : i < xs.length) : takeC (rows eM xs) (i * 3) 3 = some [I6 (nth xs i).a, I6 (nth xs i).l, I6 (nth xs i).h] := rows_takeC (f := eM) hi
theorem tk3_12 (a b c : Value) : takeC [a, b, c] 1 2 = some [b, c] := rfl
def nxT (T : List St) : Nat → Int
  | 0 => 0
  | i + 1 => (nth T i).a + 1
def nxS (S : List Sm) : Nat → Int
  | 0 => 0
  | i + 1 => (nth S i).a + 1
def nxX (X : List (Int × Int)) : Nat → Int
  | 0 => 0
  | i + 1 => (nth X i).1
def tOK (T : List St) (E : Int) (i : Nat) : Prop := setB (nth T i) = true ∧ nxT T i ≤ (nth T i).a ∧ (i = 0 → (nth T i).a ≤ 0) ∧ (nth T i).a < E
def sOK (S : List Sm) (E : Int) (i : Nat) : Prop := nxS S i ≤ (nth S i).a ∧ (nth S i).a ≤ E ∧ rgI 1000000 [((nth S i).l, (nth S i).h)] = true
def xOK (X : List (Int × Int)) (E : Int) (i : Nat) : Prop := nxX X i ≤ (nth X i).1 ∧ (nth X i).1 ≤ E ∧ 1 ≤ (nth X i).2 ∧ (nth X i).2 ≤ 5
/-- A valid run. -/
structure runOK (T : List St) (S : List Sm) (X : List (Int × Int)) (E : Int) : Prop where
  n1 : 1 ≤ T.length
  n2 : T.length ≤ 60
  s1 : S.length ≤ 100
  x1 : X.length ≤ 20
  e1 : E ≤ 100000
  t : ∀ i, i < T.length → tOK T E i
  s : ∀ i, i < S.length → sOK S E i
  x : ∀ i, i < X.length → xOK X E i
abbrev M4 (T : List St) (S : List Sm) (X : List (Int × Int)) : List (Option AObj) := [none, some (.cells ⟨rows eT T, 0, false⟩), some (.cells ⟨rows eM S, 0, false⟩), some (.cells ⟨rows eII X, 0, false⟩)]
abbrev s2 (n c : Nat) : Value := .slice (some ⟨2, 0, none⟩) n c
abbrev s3 (n c : Nat) : Value := .slice (some ⟨3, 0, none⟩) n c
theorem nx_nn {T : List St} {E : Int} {i : Nat} (h : ∀ j, j < i → tOK T E j) : 0 ≤ nxT T i := by
  induction i with
  | zero => exact Int.le_refl _
  | succ i ih =>
    have := ih fun j hj => h j (by omega)
    have h2 := (h i (by omega)).2.1
    show 0 ≤ (nth T i).a + 1
    omega
theorem nxS_nn {T : List Sm} {E : Int} {i : Nat} (h : ∀ j, j < i → sOK T E j) : 0 ≤ nxS T i := by
  induction i with
  | zero => exact Int.le_refl _
  | succ i ih =>
    have := ih fun j hj => h j (by omega)
    have h2 := (h i (by omega)).1
    show 0 ≤ (nth T i).a + 1
    omega
theorem lt_succ_all {p : Nat → Prop} {k : Nat} (h : ∀ j, j < k → p j) (hk : p k) : ∀ j, j < k + 1 → p j := fun j hj => by
  by_cases c : j = k
  · rw [c]; exact hk
  · exact h j (by omega)
/- boule/pull.CheckRun · slots 134 · names 0:r 1:r 3:n 4:next 5:i 6:s 7:_ 8:s 9:_ 10:x · results [2] -/
def ir17_r0 : IC := .reg [⟨some 1, none, false, .box (.t 0)⟩,
  ⟨some 2, none, false, .mv (.k (.int .i64 0))⟩] (some [1])
def ir17_r1 : IC := .reg [⟨some 11, none, false, .fad 0 (.t 1)⟩,
  ⟨some 12, none, false, .ldc (.t 11)⟩,
  ⟨some 13, none, false, .len (.t 12)⟩,
  ⟨some 3, none, false, .mv (.t 13)⟩] (some [1, 3])
def ir17_r2 : IC := .reg [⟨some 14, none, false, .mv (.t 3)⟩,
  ⟨some 15, none, false, .cmp .lss (.t 14) (.k (.int .i64 1))⟩,
  ⟨some 16, none, false, .mv (.t 15)⟩,
  ⟨some 17, some (16, false), false, .mv (.t 3)⟩,
  ⟨some 18, some (16, false), false, .cmp .gtr (.t 17) (.k (.int .i64 60))⟩,
  ⟨some 19, none, false, .pick (.t 16) (.k (.bool true)) (.t 18)⟩,
  ⟨some 20, none, false, .mv (.t 19)⟩,
  ⟨some 21, some (20, false), false, .fad 2 (.t 1)⟩,
  ⟨some 22, some (20, false), false, .ldc (.t 21)⟩,
  ⟨some 23, some (20, false), false, .len (.t 22)⟩,
  ⟨some 24, some (20, false), false, .cmp .gtr (.t 23) (.k (.int .i64 100))⟩,
  ⟨some 25, none, false, .pick (.t 20) (.k (.bool true)) (.t 24)⟩,
  ⟨some 26, none, false, .mv (.t 25)⟩,
  ⟨some 27, some (26, false), false, .fad 3 (.t 1)⟩,
  ⟨some 28, some (26, false), false, .ldc (.t 27)⟩,
  ⟨some 29, some (26, false), false, .len (.t 28)⟩,
  ⟨some 30, some (26, false), false, .cmp .gtr (.t 29) (.k (.int .i64 20))⟩,
  ⟨some 31, none, false, .pick (.t 26) (.k (.bool true)) (.t 30)⟩,
  ⟨some 32, none, false, .mv (.t 31)⟩,
  ⟨some 33, some (32, false), false, .fad 1 (.t 1)⟩,
  ⟨some 34, some (32, false), false, .ldc (.t 33)⟩,
  ⟨some 35, some (32, false), false, .cmp .gtr (.t 34) (.k (.int .i64 100000))⟩,
  ⟨some 36, none, false, .pick (.t 32) (.k (.bool true)) (.t 35)⟩] (some [1, 36])
def ir17_r3 : IC := .reg [⟨some 2, none, false, .mv (.k (.int .i64 2))⟩] (some [2])
def ir17_1 : IC := .seq ir17_r3 .ret
def ir17_2 : IC := .cond (.t 36) ir17_1 .skip
def ir17_3 : IC := .seq ir17_r2 ir17_2
def ir17_r4 : IC := .reg [⟨some 4, none, false, .mv (.k (.int .i64 0))⟩] (some [1, 4])
def ir17_r5 : IC := .reg [⟨some 37, none, false, .fad 0 (.t 1)⟩,
  ⟨some 38, none, false, .ldc (.t 37)⟩,
  ⟨some 39, none, false, .len (.t 38)⟩,
  ⟨some 40, none, false, .mv (.k (.int .i64 0))⟩] (some [1, 4, 38, 39, 40])
def ir17_r6 : IC := .reg [⟨some 41, none, false, .cmp .lss (.t 40) (.t 39)⟩] (some [1, 4, 38, 39, 40, 41])
def ir17_4 : IC := .cond (.t 41) .skip (.exit 0)
def ir17_r7 : IC := .reg [⟨some 42, none, false, .mv (.t 40)⟩,
  ⟨some 43, none, false, .iad 8 (.t 38) (.t 40)⟩,
  ⟨some 44, none, false, .lda 8 (.t 43)⟩,
  ⟨some 6, none, false, .alloc [(.int .i64 0), (.int .i64 0), (.int .i64 0), (.int .i64 0), (.int .i64 0), (.int .i64 0), (.int .i64 0), (.int .i64 0)]⟩,
  ⟨some 5, none, false, .mv (.t 42)⟩,
  ⟨none, none, false, .st 8 (.t 6) (.t 44)⟩] (some [1, 4, 5, 6, 38, 39, 40])
def ir17_r8 : IC := .reg [⟨some 45, none, false, .lda 8 (.t 6)⟩,
  ⟨some 46, none, false, .call (.f 42) [(.t 45)]⟩,
  ⟨some 47, none, false, .not (.t 46)⟩,
  ⟨some 48, none, false, .mv (.t 47)⟩,
  ⟨some 49, some (48, false), false, .fad 0 (.t 6)⟩,
  ⟨some 50, some (48, false), false, .ldc (.t 49)⟩,
  ⟨some 51, some (48, false), false, .mv (.t 4)⟩,
  ⟨some 52, some (48, false), false, .cmp .lss (.t 50) (.t 51)⟩,
  ⟨some 53, none, false, .pick (.t 48) (.k (.bool true)) (.t 52)⟩,
  ⟨some 54, none, false, .mv (.t 53)⟩,
  ⟨some 55, some (54, false), false, .mv (.t 5)⟩,
  ⟨some 56, some (54, false), false, .cmp .eql (.t 55) (.k (.int .i64 0))⟩,
  ⟨some 57, some (54, false), false, .mv (.t 56)⟩,
  ⟨some 58, some (57, true), false, .fad 0 (.t 6)⟩,
  ⟨some 59, some (57, true), false, .ldc (.t 58)⟩,
  ⟨some 60, some (57, true), false, .cmp .gtr (.t 59) (.k (.int .i64 0))⟩,
  ⟨some 61, some (54, false), false, .pick (.t 57) (.t 60) (.k (.bool false))⟩,
  ⟨some 62, none, false, .pick (.t 54) (.k (.bool true)) (.t 61)⟩,
  ⟨some 63, none, false, .mv (.t 62)⟩,
  ⟨some 64, some (63, false), false, .fad 0 (.t 6)⟩,
  ⟨some 65, some (63, false), false, .ldc (.t 64)⟩,
  ⟨some 66, some (63, false), false, .fad 1 (.t 1)⟩,
  ⟨some 67, some (63, false), false, .ldc (.t 66)⟩,
  ⟨some 68, some (63, false), false, .cmp .geq (.t 65) (.t 67)⟩,
  ⟨some 69, none, false, .pick (.t 63) (.k (.bool true)) (.t 68)⟩] (some [1, 6, 38, 39, 40, 69])
def ir17_r9 : IC := .reg [⟨some 2, none, false, .mv (.k (.int .i64 2))⟩] (some [2])
def ir17_5 : IC := .seq ir17_r9 .ret
def ir17_6 : IC := .cond (.t 69) ir17_5 .skip
def ir17_7 : IC := .seq ir17_r8 ir17_6
def ir17_r10 : IC := .reg [⟨some 70, none, false, .fad 0 (.t 6)⟩,
  ⟨some 71, none, false, .ldc (.t 70)⟩,
  ⟨some 72, none, false, .ar .add (.t 71) (.k (.int .i64 1))⟩,
  ⟨some 4, none, false, .mv (.t 72)⟩] (some [1, 4, 38, 39, 40])
def ir17_8 : IC := .seq ir17_7 ir17_r10
def ir17_9 : IC := .seq ir17_r7 ir17_8
def ir17_10 : IC := .block 1 ir17_9
def ir17_r11 : IC := .reg [⟨some 73, none, false, .ar .add (.t 40) (.k (.int .i64 1))⟩,
  ⟨some 40, none, false, .mv (.t 73)⟩] (some [1, 4, 38, 39, 40])
def ir17_11 : IC := .seq ir17_10 ir17_r11
def ir17_12 : IC := .seq ir17_4 ir17_11
def ir17_13 : IC := .seq ir17_r6 ir17_12
def ir17_14 : IC := .loop ir17_13
def ir17_15 : IC := .block 0 ir17_14
def ir17_16 : IC := .seq ir17_r5 ir17_15
def ir17_r12 : IC := .reg [⟨some 4, none, false, .mv (.k (.int .i64 0))⟩] (some [1, 4])
def ir17_r13 : IC := .reg [⟨some 74, none, false, .fad 2 (.t 1)⟩,
  ⟨some 75, none, false, .ldc (.t 74)⟩,
  ⟨some 76, none, false, .len (.t 75)⟩,
  ⟨some 77, none, false, .mv (.k (.int .i64 0))⟩] (some [1, 4, 75, 76, 77])
def ir17_r14 : IC := .reg [⟨some 78, none, false, .cmp .lss (.t 77) (.t 76)⟩] (some [1, 4, 75, 76, 77, 78])
def ir17_17 : IC := .cond (.t 78) .skip (.exit 2)
def ir17_r15 : IC := .reg [⟨some 79, none, false, .iad 3 (.t 75) (.t 77)⟩,
  ⟨some 80, none, false, .lda 3 (.t 79)⟩,
  ⟨some 8, none, false, .alloc [(.int .i64 0), (.int .i64 0), (.int .i64 0)]⟩,
  ⟨none, none, false, .st 3 (.t 8) (.t 80)⟩] (some [1, 4, 8, 75, 76, 77])
def ir17_r16 : IC := .reg [⟨some 81, none, false, .fad 0 (.t 8)⟩,
  ⟨some 82, none, false, .ldc (.t 81)⟩,
  ⟨some 83, none, false, .mv (.t 4)⟩,
  ⟨some 84, none, false, .cmp .lss (.t 82) (.t 83)⟩,
  ⟨some 85, none, false, .mv (.t 84)⟩,
  ⟨some 86, some (85, false), false, .fad 0 (.t 8)⟩,
  ⟨some 87, some (85, false), false, .ldc (.t 86)⟩,
  ⟨some 88, some (85, false), false, .fad 1 (.t 1)⟩,
  ⟨some 89, some (85, false), false, .ldc (.t 88)⟩,
  ⟨some 90, some (85, false), false, .cmp .gtr (.t 87) (.t 89)⟩,
  ⟨some 91, none, false, .pick (.t 85) (.k (.bool true)) (.t 90)⟩,
  ⟨some 92, none, false, .mv (.t 91)⟩,
  ⟨some 93, some (92, false), false, .fad 1 (.t 8)⟩,
  ⟨some 94, some (92, false), false, .lda 2 (.t 93)⟩,
  ⟨some 95, some (92, false), false, .bsl 2 1 [(.int .i64 0), (.int .i64 0)] [(0, (.t 94))]⟩,
  ⟨some 96, some (92, false), false, .call (.f 43) [(.k (.int .i64 1000000)), (.t 95)]⟩,
  ⟨some 97, some (92, false), false, .not (.t 96)⟩,
  ⟨some 98, none, false, .pick (.t 92) (.k (.bool true)) (.t 97)⟩] (some [1, 8, 75, 76, 77, 98])
def ir17_r17 : IC := .reg [⟨some 2, none, false, .mv (.k (.int .i64 2))⟩] (some [2])
def ir17_18 : IC := .seq ir17_r17 .ret
def ir17_19 : IC := .cond (.t 98) ir17_18 .skip
def ir17_20 : IC := .seq ir17_r16 ir17_19
def ir17_r18 : IC := .reg [⟨some 99, none, false, .fad 0 (.t 8)⟩,
  ⟨some 100, none, false, .ldc (.t 99)⟩,
  ⟨some 101, none, false, .ar .add (.t 100) (.k (.int .i64 1))⟩,
  ⟨some 4, none, false, .mv (.t 101)⟩] (some [1, 4, 75, 76, 77])
def ir17_21 : IC := .seq ir17_20 ir17_r18
def ir17_22 : IC := .seq ir17_r15 ir17_21
def ir17_23 : IC := .block 3 ir17_22
def ir17_r19 : IC := .reg [⟨some 102, none, false, .ar .add (.t 77) (.k (.int .i64 1))⟩,
  ⟨some 77, none, false, .mv (.t 102)⟩] (some [1, 4, 75, 76, 77])
def ir17_24 : IC := .seq ir17_23 ir17_r19
def ir17_25 : IC := .seq ir17_17 ir17_24
def ir17_26 : IC := .seq ir17_r14 ir17_25
def ir17_27 : IC := .loop ir17_26
def ir17_28 : IC := .block 2 ir17_27
def ir17_29 : IC := .seq ir17_r13 ir17_28
def ir17_r20 : IC := .reg [⟨some 4, none, false, .mv (.k (.int .i64 0))⟩] (some [1, 4])
def ir17_r21 : IC := .reg [⟨some 103, none, false, .fad 3 (.t 1)⟩,
  ⟨some 104, none, false, .ldc (.t 103)⟩,
  ⟨some 105, none, false, .len (.t 104)⟩,
  ⟨some 106, none, false, .mv (.k (.int .i64 0))⟩] (some [1, 4, 104, 105, 106])
def ir17_r22 : IC := .reg [⟨some 107, none, false, .cmp .lss (.t 106) (.t 105)⟩] (some [1, 4, 104, 105, 106, 107])
def ir17_30 : IC := .cond (.t 107) .skip (.exit 4)
def ir17_r23 : IC := .reg [⟨some 108, none, false, .iad 2 (.t 104) (.t 106)⟩,
  ⟨some 109, none, false, .lda 2 (.t 108)⟩,
  ⟨some 10, none, false, .alloc [(.int .i64 0), (.int .i64 0)]⟩,
  ⟨none, none, false, .st 2 (.t 10) (.t 109)⟩] (some [1, 4, 10, 104, 105, 106])
def ir17_r24 : IC := .reg [⟨some 110, none, false, .fad 0 (.t 10)⟩,
  ⟨some 111, none, false, .ldc (.t 110)⟩,
  ⟨some 112, none, false, .mv (.t 4)⟩,
  ⟨some 113, none, false, .cmp .lss (.t 111) (.t 112)⟩,
  ⟨some 114, none, false, .mv (.t 113)⟩,
  ⟨some 115, some (114, false), false, .fad 0 (.t 10)⟩,
  ⟨some 116, some (114, false), false, .ldc (.t 115)⟩,
  ⟨some 117, some (114, false), false, .fad 1 (.t 1)⟩,
  ⟨some 118, some (114, false), false, .ldc (.t 117)⟩,
  ⟨some 119, some (114, false), false, .cmp .gtr (.t 116) (.t 118)⟩,
  ⟨some 120, none, false, .pick (.t 114) (.k (.bool true)) (.t 119)⟩,
  ⟨some 121, none, false, .mv (.t 120)⟩,
  ⟨some 122, some (121, false), false, .fad 1 (.t 10)⟩,
  ⟨some 123, some (121, false), false, .ldc (.t 122)⟩,
  ⟨some 124, some (121, false), false, .cmp .lss (.t 123) (.k (.int .i64 1))⟩,
  ⟨some 125, none, false, .pick (.t 121) (.k (.bool true)) (.t 124)⟩,
  ⟨some 126, none, false, .mv (.t 125)⟩,
  ⟨some 127, some (126, false), false, .fad 1 (.t 10)⟩,
  ⟨some 128, some (126, false), false, .ldc (.t 127)⟩,
  ⟨some 129, some (126, false), false, .cmp .gtr (.t 128) (.k (.int .i64 5))⟩,
  ⟨some 130, none, false, .pick (.t 126) (.k (.bool true)) (.t 129)⟩] (some [1, 10, 104, 105, 106, 130])
def ir17_r25 : IC := .reg [⟨some 2, none, false, .mv (.k (.int .i64 2))⟩] (some [2])
def ir17_31 : IC := .seq ir17_r25 .ret
def ir17_32 : IC := .cond (.t 130) ir17_31 .skip
def ir17_33 : IC := .seq ir17_r24 ir17_32
def ir17_r26 : IC := .reg [⟨some 131, none, false, .fad 0 (.t 10)⟩,
  ⟨some 132, none, false, .ldc (.t 131)⟩,
  ⟨some 4, none, false, .mv (.t 132)⟩] (some [1, 4, 104, 105, 106])
def ir17_34 : IC := .seq ir17_33 ir17_r26
def ir17_35 : IC := .seq ir17_r23 ir17_34
def ir17_36 : IC := .block 5 ir17_35
def ir17_r27 : IC := .reg [⟨some 133, none, false, .ar .add (.t 106) (.k (.int .i64 1))⟩,
  ⟨some 106, none, false, .mv (.t 133)⟩] (some [1, 4, 104, 105, 106])
def ir17_37 : IC := .seq ir17_36 ir17_r27
def ir17_38 : IC := .seq ir17_30 ir17_37
def ir17_39 : IC := .seq ir17_r22 ir17_38
def ir17_40 : IC := .loop ir17_39
def ir17_41 : IC := .block 4 ir17_40
def ir17_42 : IC := .seq ir17_r21 ir17_41
def ir17_r28 : IC := .reg [⟨some 2, none, false, .mv (.k (.int .i64 0))⟩] (some [2])
def ir17_43 : IC := .seq ir17_r28 .ret
def ir17_44 : IC := .seq ir17_42 ir17_43
def ir17_45 : IC := .seq ir17_r20 ir17_44
def ir17_46 : IC := .seq ir17_29 ir17_45
def ir17_47 : IC := .seq ir17_r12 ir17_46
def ir17_48 : IC := .seq ir17_16 ir17_47
def ir17_49 : IC := .seq ir17_r4 ir17_48
def ir17_50 : IC := .seq ir17_3 ir17_49
def ir17_51 : IC := .seq ir17_r1 ir17_50
def ir17_52 : IC := .seq ir17_r0 ir17_51
def ir17 : IC := ir17_52
theorem fn17 : FnIs Try.prog 17 ir17 134 [.tmp 2] := ⟨Try.f17, Try.f17.body.getD .skip, Try.func17, by kernel_rfl, by kernel_rfl, by kernel_rfl, by kernel_rfl⟩
/- boule/pull.both · slots 13 · names 0:p 1:r 2:p 3:r · results [4] -/
def ir48_r0 : IC := .reg [⟨some 2, none, false, .box (.t 0)⟩,
  ⟨some 3, none, false, .box (.t 1)⟩,
  ⟨some 4, none, false, .mv (.k (.int .i64 0))⟩] (some [2, 3])
def ir48_r1 : IC := .reg [⟨some 5, none, false, .lda 117 (.t 2)⟩,
  ⟨some 6, none, false, .call (.f 65) [(.t 5)]⟩,
  ⟨some 7, none, false, .cmp .neq (.t 6) (.k (.int .i64 0))⟩,
  ⟨some 8, none, false, .mv (.t 7)⟩,
  ⟨some 9, some (8, false), false, .lda 4 (.t 3)⟩,
  ⟨some 10, some (8, false), false, .call (.f 17) [(.t 9)]⟩,
  ⟨some 11, some (8, false), false, .cmp .neq (.t 10) (.k (.int .i64 0))⟩,
  ⟨some 12, none, false, .pick (.t 8) (.k (.bool true)) (.t 11)⟩] (some [12])
def ir48_r2 : IC := .reg [⟨some 4, none, false, .mv (.k (.int .i64 2))⟩] (some [4])
def ir48_1 : IC := .seq ir48_r2 .ret
def ir48_2 : IC := .cond (.t 12) ir48_1 .skip
def ir48_3 : IC := .seq ir48_r1 ir48_2
def ir48_r3 : IC := .reg [⟨some 4, none, false, .mv (.k (.int .i64 0))⟩] (some [4])
def ir48_4 : IC := .seq ir48_r3 .ret
def ir48_5 : IC := .seq ir48_3 ir48_4
def ir48_6 : IC := .seq ir48_r0 ir48_5
def ir48 : IC := ir48_6
theorem fn48 : FnIs Try.prog 48 ir48 13 [.tmp 4] := ⟨Try.f48, Try.f48.body.getD .skip, Try.func48, by kernel_rfl, by kernel_rfl, by kernel_rfl, by kernel_rfl⟩
set_option maxHeartbeats 2000000 in
theorem run_c {T : List St} {S : List Sm} {X : List (Int × Int)} {E e : Int} {nT cT nS cS nX cX : Nat} (hT : T.length = nT) (hS : S.length = nS) (hX : X.length = nX) (hb : E < 9223372036854775807) (he : (runOK T S X E ∧ e = 0) ∨ (¬ runOK T S X E ∧ e = 2)) :
    Fc Try.prog 17 [.agg #[s1 nT cT, I6 E, s2 nS cS, s3 nX cX]] (Hp 4 (M4 T S X)) (.int .i64 e) (Hp 4 (M4 T S X)) := by
  have bad : (runOK T S X E → False) → e = 2 := fun hf => he.elim (fun h => (hf h.1).elim) (·.2)
  refine Fc.intro0 fn17 (by simp) rfl rfl ?_; simp only [argF]
  refine ITri.seq ?_
  refine ITri.reg pok ?_; simp -implicitDefEqProofs (disch := first | decide | exact of_eq_true (eq_true rfl) | omega | assumption) only [ ↓vcD, vcE, ↓vcG, vcF, evs, evP, evB, intsOf, fillC, Value.cells, pt, Value.oneCell', reduceIte, reduceCtorEq, Nat.reduceEqDiff, Nat.reduceAdd, Nat.reduceMul, Nat.reduceLT, Nat.reduceBEq, Nat.reduceLeDiff, Nat.reduceSub] -- r0
  refine ITri.seq ?_
  refine ITri.reg pok ?_; simp -implicitDefEqProofs (disch := first | decide | exact of_eq_true (eq_true rfl) | omega | assumption) only [ ↓vcD, vcE, ↓vcG, vcF, evs, evP, evB, intsOf, fillC, Value.cells, pt, Value.oneCell', reduceIte, reduceCtorEq, Nat.reduceEqDiff, Nat.reduceAdd, Nat.reduceMul, Nat.reduceLT, Nat.reduceBEq, Nat.reduceLeDiff, Nat.reduceSub] -- r1
  refine ITri.seq ?_
  refine ITri.seq ?_
  by_cases c1 : (nT : Int) < 1
  · obtain rfl := bad fun h => by have := h.n1; omega
    refine ITri.reg pok ?_; simp -implicitDefEqProofs (disch := first | decide | exact of_eq_true (eq_true rfl) | omega | assumption) only [c1, decide_true,  ↓vcD, vcE, ↓vcG, vcF, evs, evP, evB, intsOf, fillC, Value.cells, pt, Value.oneCell', reduceIte, reduceCtorEq, Nat.reduceEqDiff, Nat.reduceAdd, Nat.reduceMul, Nat.reduceLT, Nat.reduceBEq, Nat.reduceLeDiff, Nat.reduceSub] -- r2
    refine ITri.cond (v := true) rfl (fun _ => ?_) (fun h => by cases h)
    refine ITri.seq ?_
    refine ITri.reg pok ?_; simp -implicitDefEqProofs (disch := first | decide | exact of_eq_true (eq_true rfl) | omega | assumption) only [ ↓vcD, vcE, ↓vcG, vcF, evs, evP, evB, intsOf, fillC, Value.cells, pt, Value.oneCell', reduceIte, reduceCtorEq, Nat.reduceEqDiff, Nat.reduceAdd, Nat.reduceMul, Nat.reduceLT, Nat.reduceBEq, Nat.reduceLeDiff, Nat.reduceSub] -- r3
    refine ITri.ret ?_; exact EndR.plain (by simp) (by rfl) (by rfl) (by rfl)
  by_cases c2 : (nT : Int) > 60
  · obtain rfl := bad fun h => by have := h.n2; omega
    refine ITri.reg pok ?_; simp -implicitDefEqProofs (disch := first | decide | exact of_eq_true (eq_true rfl) | omega | assumption) only [c1, c2, decide_true, decide_false,  ↓vcD, vcE, ↓vcG, vcF, evs, evP, evB, intsOf, fillC, Value.cells, pt, Value.oneCell', reduceIte, reduceCtorEq, Nat.reduceEqDiff, Nat.reduceAdd, Nat.reduceMul, Nat.reduceLT, Nat.reduceBEq, Nat.reduceLeDiff, Nat.reduceSub] -- r2
    refine ITri.cond (v := true) rfl (fun _ => ?_) (fun h => by cases h)
    refine ITri.seq ?_
    refine ITri.reg pok ?_; simp -implicitDefEqProofs (disch := first | decide | exact of_eq_true (eq_true rfl) | omega | assumption) only [ ↓vcD, vcE, ↓vcG, vcF, evs, evP, evB, intsOf, fillC, Value.cells, pt, Value.oneCell', reduceIte, reduceCtorEq, Nat.reduceEqDiff, Nat.reduceAdd, Nat.reduceMul, Nat.reduceLT, Nat.reduceBEq, Nat.reduceLeDiff, Nat.reduceSub] -- r3
    refine ITri.ret ?_; exact EndR.plain (by simp) (by rfl) (by rfl) (by rfl)
  by_cases c3 : (nS : Int) > 100
  · obtain rfl := bad fun h => by have := h.s1; omega
    refine ITri.reg pok ?_; simp -implicitDefEqProofs (disch := first | decide | exact of_eq_true (eq_true rfl) | omega | assumption) only [c1, c2, c3, decide_true, decide_false,  ↓vcD, vcE, ↓vcG, vcF, evs, evP, evB, intsOf, fillC, Value.cells, pt, Value.oneCell', reduceIte, reduceCtorEq, Nat.reduceEqDiff, Nat.reduceAdd, Nat.reduceMul, Nat.reduceLT, Nat.reduceBEq, Nat.reduceLeDiff, Nat.reduceSub] -- r2
    refine ITri.cond (v := true) rfl (fun _ => ?_) (fun h => by cases h)
    refine ITri.seq ?_
    refine ITri.reg pok ?_; simp -implicitDefEqProofs (disch := first | decide | exact of_eq_true (eq_true rfl) | omega | assumption) only [ ↓vcD, vcE, ↓vcG, vcF, evs, evP, evB, intsOf, fillC, Value.cells, pt, Value.oneCell', reduceIte, reduceCtorEq, Nat.reduceEqDiff, Nat.reduceAdd, Nat.reduceMul, Nat.reduceLT, Nat.reduceBEq, Nat.reduceLeDiff, Nat.reduceSub] -- r3
    refine ITri.ret ?_; exact EndR.plain (by simp) (by rfl) (by rfl) (by rfl)
  by_cases c4 : (nX : Int) > 20
  · obtain rfl := bad fun h => by have := h.x1; omega
    refine ITri.reg pok ?_; simp -implicitDefEqProofs (disch := first | decide | exact of_eq_true (eq_true rfl) | omega | assumption) only [c1, c2, c3, c4, decide_true, decide_false,  ↓vcD, vcE, ↓vcG, vcF, evs, evP, evB, intsOf, fillC, Value.cells, pt, Value.oneCell', reduceIte, reduceCtorEq, Nat.reduceEqDiff, Nat.reduceAdd, Nat.reduceMul, Nat.reduceLT, Nat.reduceBEq, Nat.reduceLeDiff, Nat.reduceSub] -- r2
    refine ITri.cond (v := true) rfl (fun _ => ?_) (fun h => by cases h)
    refine ITri.seq ?_
    refine ITri.reg pok ?_; simp -implicitDefEqProofs (disch := first | decide | exact of_eq_true (eq_true rfl) | omega | assumption) only [ ↓vcD, vcE, ↓vcG, vcF, evs, evP, evB, intsOf, fillC, Value.cells, pt, Value.oneCell', reduceIte, reduceCtorEq, Nat.reduceEqDiff, Nat.reduceAdd, Nat.reduceMul, Nat.reduceLT, Nat.reduceBEq, Nat.reduceLeDiff, Nat.reduceSub] -- r3
    refine ITri.ret ?_; exact EndR.plain (by simp) (by rfl) (by rfl) (by rfl)
  by_cases c5 : E > 100000
  · obtain rfl := bad fun h => by have := h.e1; omega
    refine ITri.reg pok ?_; simp -implicitDefEqProofs (disch := first | decide | exact of_eq_true (eq_true rfl) | omega | assumption) only [c1, c2, c3, c4, c5, decide_true, decide_false,  ↓vcD, vcE, ↓vcG, vcF, evs, evP, evB, intsOf, fillC, Value.cells, pt, Value.oneCell', reduceIte, reduceCtorEq, Nat.reduceEqDiff, Nat.reduceAdd, Nat.reduceMul, Nat.reduceLT, Nat.reduceBEq, Nat.reduceLeDiff, Nat.reduceSub] -- r2
    refine ITri.cond (v := true) rfl (fun _ => ?_) (fun h => by cases h)
    refine ITri.seq ?_
    refine ITri.reg pok ?_; simp -implicitDefEqProofs (disch := first | decide | exact of_eq_true (eq_true rfl) | omega | assumption) only [ ↓vcD, vcE, ↓vcG, vcF, evs, evP, evB, intsOf, fillC, Value.cells, pt, Value.oneCell', reduceIte, reduceCtorEq, Nat.reduceEqDiff, Nat.reduceAdd, Nat.reduceMul, Nat.reduceLT, Nat.reduceBEq, Nat.reduceLeDiff, Nat.reduceSub] -- r3
    refine ITri.ret ?_; exact EndR.plain (by simp) (by rfl) (by rfl) (by rfl)
  refine ITri.reg pok ?_; simp -implicitDefEqProofs (disch := first | decide | exact of_eq_true (eq_true rfl) | omega | assumption) only [c1, c2, c3, c4, c5, decide_false,  ↓vcD, vcE, ↓vcG, vcF, evs, evP, evB, intsOf, fillC, Value.cells, pt, Value.oneCell', reduceIte, reduceCtorEq, Nat.reduceEqDiff, Nat.reduceAdd, Nat.reduceMul, Nat.reduceLT, Nat.reduceBEq, Nat.reduceLeDiff, Nat.reduceSub] -- r2
  refine ITri.cond (v := false) rfl (fun h => by cases h) (fun _ => ?_); refine ITri.skip ?_; simp only [SeqQ_normal, BlkQ_normal]
  refine ITri.seq ?_
  refine ITri.reg pok ?_; simp -implicitDefEqProofs (disch := first | decide | exact of_eq_true (eq_true rfl) | omega | assumption) only [ ↓vcD, vcE, ↓vcG, vcF, evs, evP, evB, intsOf, fillC, Value.cells, pt, Value.oneCell', reduceIte, reduceCtorEq, Nat.reduceEqDiff, Nat.reduceAdd, Nat.reduceMul, Nat.reduceLT, Nat.reduceBEq, Nat.reduceLeDiff, Nat.reduceSub] -- r4
  refine ITri.seq ?_
  refine ITri.seq ?_
  refine ITri.reg pok ?_; simp -implicitDefEqProofs (disch := first | decide | exact of_eq_true (eq_true rfl) | omega | assumption) only [ ↓vcD, vcE, ↓vcG, vcF, evs, evP, evB, intsOf, fillC, Value.cells, pt, Value.oneCell', reduceIte, reduceCtorEq, Nat.reduceEqDiff, Nat.reduceAdd, Nat.reduceMul, Nat.reduceLT, Nat.reduceBEq, Nat.reduceLeDiff, Nat.reduceSub] -- r5
  refine ITri.block ?_ -- 0
  refine ITri.loop (fun k : Nat => [(1, pt 4), (4, .int .i64 (nxT T k)), (38, s1 nT cT), (39, .int .i64 nT), (40, .int .i64 k)]) (fun _ => []) (fun k => Hp 4 [none, some (.cells ⟨rows eT T, 0, false⟩), some (.cells ⟨rows eM S, 0, false⟩), some (.cells ⟨rows eII X, 0, false⟩), some (.cells ⟨[s1 nT cT, I6 E, s2 nS cS, s3 nX cX], 1, false⟩)]) (fun k => k ≤ nT ∧ ∀ j, j < k → tOK T E j) (fun k => nT - k) 0 ⟨Nat.zero_le _, fun j hj => by omega⟩ (Wk.sub ⟨rfl, rfl, rfl, rfl, rfl, trivial⟩) fun k hk => ?_
  obtain ⟨hk, hj⟩ := hk
  refine ITri.seq ?_
  refine ITri.reg pok ?_; simp -implicitDefEqProofs (disch := first | decide | exact of_eq_true (eq_true rfl) | omega | assumption) only [ ↓vcD, vcE, ↓vcG, vcF, evs, evP, evB, intsOf, fillC, Value.cells, pt, Value.oneCell', reduceIte, reduceCtorEq, Nat.reduceEqDiff, Nat.reduceAdd, Nat.reduceMul, Nat.reduceLT, Nat.reduceBEq, Nat.reduceLeDiff, Nat.reduceSub] -- r6
  refine ITri.seq ?_
  refine ITri.condD (by rfl) (fun h3 => ?_) (fun h3 => ?_) -- %41
  · have hkn : k < nT := by omega
    have g1 : takeC (rows eT T) (k * 8) 8 = some [I6 (nth T k).a, I6 (nth T k).p, I6 (nth T k).v0, I6 (nth T k).v1, I6 (nth T k).v2, I6 (nth T k).v3, I6 (nth T k).v4, I6 (nth T k).v5] := takeT (xs := T) (i := k) (by omega)
    have g2 : ∀ {h : AH}, h.sees 0 = true → Fc Try.prog 42 [.agg ⟨[I6 (nth T k).a, I6 (nth T k).p, I6 (nth T k).v0, I6 (nth T k).v1, I6 (nth T k).v2, I6 (nth T k).v3, I6 (nth T k).v4, I6 (nth T k).v5]⟩] h (.bool (setB (nth T k))) h := fun {h} h0 => setting_f (nth T k) (h := h) h0
    have hn0 := nx_nn hj
    have hnx : nxT T (k + 1) = (nth T k).a + 1 := rfl
    have bd' : ¬ tOK T E k → e = 2 := fun hn => bad fun h => hn (h.t k (by omega))
    have gd' : tOK T E k → ∀ j, j < k + 1 → tOK T E j := fun h => lt_succ_all hj h
    have okd : tOK T E k = (setB (nth T k) = true ∧ nxT T k ≤ (nth T k).a ∧ (k = 0 → (nth T k).a ≤ 0) ∧ (nth T k).a < E) := rfl
    rw [okd] at bd' gd'
    clear okd
    generalize setB (nth T k) = sb at *
    have hk1 : (k : Int) + 1 = ((k + 1 : Nat) : Int) := by omega
    generalize nxT T k = nx at *
    generalize nth T k = x at *
    refine ITri.skip ?_; simp only [SeqQ_normal, BlkQ_normal]
    refine ITri.seq ?_
    refine ITri.block ?_ -- 1
    refine ITri.seq ?_
    refine ITri.reg pok ?_; simp -implicitDefEqProofs (disch := first | decide | exact of_eq_true (eq_true rfl) | omega | assumption) only [g1,  ↓vcD, vcE, ↓vcG, vcF, evs, evP, evB, intsOf, fillC, Value.cells, pt, Value.oneCell', reduceIte, reduceCtorEq, Nat.reduceEqDiff, Nat.reduceAdd, Nat.reduceMul, Nat.reduceLT, Nat.reduceBEq, Nat.reduceLeDiff, Nat.reduceSub] -- r7
    refine ITri.seq ?_
    refine ITri.seq ?_
    cases b1 : sb with
    | false =>
      rw [b1] at g2
      obtain rfl := bd' fun h => by rw [b1] at h; cases h.1
      refine ITri.reg pok ?_; simp -implicitDefEqProofs (disch := first | decide | exact of_eq_true (eq_true rfl) | omega | assumption) only [ ↓vcD, vcE, ↓vcG, vcF, evs, evP, evB, intsOf, fillC, Value.cells, pt, Value.oneCell', reduceIte, reduceCtorEq, Nat.reduceEqDiff, Nat.reduceAdd, Nat.reduceMul, Nat.reduceLT, Nat.reduceBEq, Nat.reduceLeDiff, Nat.reduceSub] -- r8
      refine ⟨_, _, g2 (sees0 rfl (of_decide_eq_true rfl)), ?_⟩
      simp -implicitDefEqProofs (disch := first | decide | exact of_eq_true (eq_true rfl) | omega | assumption) only [Bool.not_false,  ↓vcD, vcE, ↓vcG, vcF, evs, evP, evB, intsOf, fillC, Value.cells, pt, Value.oneCell', reduceIte, reduceCtorEq, Nat.reduceEqDiff, Nat.reduceAdd, Nat.reduceMul, Nat.reduceLT, Nat.reduceBEq, Nat.reduceLeDiff, Nat.reduceSub]
      refine ITri.cond (v := true) rfl (fun _ => ?_) (fun h => by cases h)
      refine ITri.seq ?_
      refine ITri.reg pok ?_; simp -implicitDefEqProofs (disch := first | decide | exact of_eq_true (eq_true rfl) | omega | assumption) only [ ↓vcD, vcE, ↓vcG, vcF, evs, evP, evB, intsOf, fillC, Value.cells, pt, Value.oneCell', reduceIte, reduceCtorEq, Nat.reduceEqDiff, Nat.reduceAdd, Nat.reduceMul, Nat.reduceLT, Nat.reduceBEq, Nat.reduceLeDiff, Nat.reduceSub] -- r9
      refine ITri.ret ?_; exact EndR.plain (by simp) (by rfl) (by rfl) (by rfl)
    | true =>
      rw [b1] at g2 gd'
      by_cases d1 : x.a < nx
      · obtain rfl := bd' fun h => by omega
        refine ITri.reg pok ?_; simp -implicitDefEqProofs (disch := first | decide | exact of_eq_true (eq_true rfl) | omega | assumption) only [ ↓vcD, vcE, ↓vcG, vcF, evs, evP, evB, intsOf, fillC, Value.cells, pt, Value.oneCell', reduceIte, reduceCtorEq, Nat.reduceEqDiff, Nat.reduceAdd, Nat.reduceMul, Nat.reduceLT, Nat.reduceBEq, Nat.reduceLeDiff, Nat.reduceSub] -- r8
        refine ⟨_, _, g2 (sees0 rfl (of_decide_eq_true rfl)), ?_⟩
        simp -implicitDefEqProofs (disch := first | decide | exact of_eq_true (eq_true rfl) | omega | assumption) only [Bool.not_true, d1, decide_true,  ↓vcD, vcE, ↓vcG, vcF, evs, evP, evB, intsOf, fillC, Value.cells, pt, Value.oneCell', reduceIte, reduceCtorEq, Nat.reduceEqDiff, Nat.reduceAdd, Nat.reduceMul, Nat.reduceLT, Nat.reduceBEq, Nat.reduceLeDiff, Nat.reduceSub]
        refine ITri.cond (v := true) rfl (fun _ => ?_) (fun h => by cases h)
        refine ITri.seq ?_
        refine ITri.reg pok ?_; simp -implicitDefEqProofs (disch := first | decide | exact of_eq_true (eq_true rfl) | omega | assumption) only [ ↓vcD, vcE, ↓vcG, vcF, evs, evP, evB, intsOf, fillC, Value.cells, pt, Value.oneCell', reduceIte, reduceCtorEq, Nat.reduceEqDiff, Nat.reduceAdd, Nat.reduceMul, Nat.reduceLT, Nat.reduceBEq, Nat.reduceLeDiff, Nat.reduceSub] -- r9
        refine ITri.ret ?_; exact EndR.plain (by simp) (by rfl) (by rfl) (by rfl)
      by_cases d2 : k = 0
      · subst d2
        have z0 : ((((0 : Nat) : Int) = 0) = True) := eq_true rfl
        by_cases d3 : x.a > 0
        · obtain rfl := bd' fun h => by omega
          refine ITri.reg pok ?_; simp -implicitDefEqProofs (disch := first | decide | exact of_eq_true (eq_true rfl) | omega | assumption) only [ ↓vcD, vcE, ↓vcG, vcF, evs, evP, evB, intsOf, fillC, Value.cells, pt, Value.oneCell', reduceIte, reduceCtorEq, Nat.reduceEqDiff, Nat.reduceAdd, Nat.reduceMul, Nat.reduceLT, Nat.reduceBEq, Nat.reduceLeDiff, Nat.reduceSub] -- r8
          refine ⟨_, _, g2 (sees0 rfl (of_decide_eq_true rfl)), ?_⟩
          simp -implicitDefEqProofs (disch := first | decide | exact of_eq_true (eq_true rfl) | omega | assumption) only [Bool.not_true, d1, z0, d3, decide_true, decide_false,  ↓vcD, vcE, ↓vcG, vcF, evs, evP, evB, intsOf, fillC, Value.cells, pt, Value.oneCell', reduceIte, reduceCtorEq, Nat.reduceEqDiff, Nat.reduceAdd, Nat.reduceMul, Nat.reduceLT, Nat.reduceBEq, Nat.reduceLeDiff, Nat.reduceSub]
          refine ITri.cond (v := true) rfl (fun _ => ?_) (fun h => by cases h)
          refine ITri.seq ?_
          refine ITri.reg pok ?_; simp -implicitDefEqProofs (disch := first | decide | exact of_eq_true (eq_true rfl) | omega | assumption) only [ ↓vcD, vcE, ↓vcG, vcF, evs, evP, evB, intsOf, fillC, Value.cells, pt, Value.oneCell', reduceIte, reduceCtorEq, Nat.reduceEqDiff, Nat.reduceAdd, Nat.reduceMul, Nat.reduceLT, Nat.reduceBEq, Nat.reduceLeDiff, Nat.reduceSub] -- r9
          refine ITri.ret ?_; exact EndR.plain (by simp) (by rfl) (by rfl) (by rfl)
        by_cases d4 : x.a ≥ E
        · obtain rfl := bd' fun h => by omega
          refine ITri.reg pok ?_; simp -implicitDefEqProofs (disch := first | decide | exact of_eq_true (eq_true rfl) | omega | assumption) only [ ↓vcD, vcE, ↓vcG, vcF, evs, evP, evB, intsOf, fillC, Value.cells, pt, Value.oneCell', reduceIte, reduceCtorEq, Nat.reduceEqDiff, Nat.reduceAdd, Nat.reduceMul, Nat.reduceLT, Nat.reduceBEq, Nat.reduceLeDiff, Nat.reduceSub] -- r8
          refine ⟨_, _, g2 (sees0 rfl (of_decide_eq_true rfl)), ?_⟩
          simp -implicitDefEqProofs (disch := first | decide | exact of_eq_true (eq_true rfl) | omega | assumption) only [Bool.not_true, d1, z0, d3, d4, decide_true, decide_false,  ↓vcD, vcE, ↓vcG, vcF, evs, evP, evB, intsOf, fillC, Value.cells, pt, Value.oneCell', reduceIte, reduceCtorEq, Nat.reduceEqDiff, Nat.reduceAdd, Nat.reduceMul, Nat.reduceLT, Nat.reduceBEq, Nat.reduceLeDiff, Nat.reduceSub]
          refine ITri.cond (v := true) rfl (fun _ => ?_) (fun h => by cases h)
          refine ITri.seq ?_
          refine ITri.reg pok ?_; simp -implicitDefEqProofs (disch := first | decide | exact of_eq_true (eq_true rfl) | omega | assumption) only [ ↓vcD, vcE, ↓vcG, vcF, evs, evP, evB, intsOf, fillC, Value.cells, pt, Value.oneCell', reduceIte, reduceCtorEq, Nat.reduceEqDiff, Nat.reduceAdd, Nat.reduceMul, Nat.reduceLT, Nat.reduceBEq, Nat.reduceLeDiff, Nat.reduceSub] -- r9
          refine ITri.ret ?_; exact EndR.plain (by simp) (by rfl) (by rfl) (by rfl)
        refine ITri.reg pok ?_; simp -implicitDefEqProofs (disch := first | decide | exact of_eq_true (eq_true rfl) | omega | assumption) only [ ↓vcD, vcE, ↓vcG, vcF, evs, evP, evB, intsOf, fillC, Value.cells, pt, Value.oneCell', reduceIte, reduceCtorEq, Nat.reduceEqDiff, Nat.reduceAdd, Nat.reduceMul, Nat.reduceLT, Nat.reduceBEq, Nat.reduceLeDiff, Nat.reduceSub] -- r8
        refine ⟨_, _, g2 (sees0 rfl (of_decide_eq_true rfl)), ?_⟩
        simp -implicitDefEqProofs (disch := first | decide | exact of_eq_true (eq_true rfl) | omega | assumption) only [Bool.not_true, d1, z0, d3, d4, decide_true, decide_false,  ↓vcD, vcE, ↓vcG, vcF, evs, evP, evB, intsOf, fillC, Value.cells, pt, Value.oneCell', reduceIte, reduceCtorEq, Nat.reduceEqDiff, Nat.reduceAdd, Nat.reduceMul, Nat.reduceLT, Nat.reduceBEq, Nat.reduceLeDiff, Nat.reduceSub]
        refine ITri.cond (v := false) rfl (fun h => by cases h) (fun _ => ?_); refine ITri.skip ?_; simp only [SeqQ_normal, BlkQ_normal]
        refine ITri.reg pok ?_; simp -implicitDefEqProofs (disch := first | decide | exact of_eq_true (eq_true rfl) | omega | assumption) only [ ↓vcD, vcE, ↓vcG, vcF, evs, evP, evB, intsOf, fillC, Value.cells, pt, Value.oneCell', reduceIte, reduceCtorEq, Nat.reduceEqDiff, Nat.reduceAdd, Nat.reduceMul, Nat.reduceLT, Nat.reduceBEq, Nat.reduceLeDiff, Nat.reduceSub] -- r10
        refine ITri.reg pok ?_; simp -implicitDefEqProofs (disch := first | decide | exact of_eq_true (eq_true rfl) | omega | assumption) only [hk1,  ↓vcD, vcE, ↓vcG, vcF, evs, evP, evB, intsOf, fillC, Value.cells, pt, Value.oneCell', reduceIte, reduceCtorEq, Nat.reduceEqDiff, Nat.reduceAdd, Nat.reduceMul, Nat.reduceLT, Nat.reduceBEq, Nat.reduceLeDiff, Nat.reduceSub] -- r11
        exact LoopQ.next (0 + 1) ⟨by omega, gd' ⟨rfl, by omega, fun _ => by omega, by omega⟩⟩ (by omega) (by rw [hnx]; exact Wk.gc [0, 1, 2, 3, 4] [] (of_decide_eq_true rfl) (of_decide_eq_true rfl) rfl rfl (of_decide_eq_true rfl) rfl rfl (by repeat (first | exact xiOK_nil | refine xiOK_cons (by first | trivial | exact roomOK _ (by decide)) ?_)) rfl (by simp -implicitDefEqProofs (disch := first | decide | exact of_eq_true (eq_true rfl) | omega | assumption) only [ objOK, sgL, xiL, objAt, nilO, OM, mvL, mv, mvS, okS, okP, mvL_rows, okML, okM, okML_rows, List.getElem?_cons_zero, Option.getD_some, implies_true, imp_self, ne_eq, and_self, true_or, or_true, Nat.zero_mul, Nat.sub_self, openB_self, ↓vcD, vcE, ↓vcG, vcF, evs, evP, evB, intsOf, fillC, Value.cells, pt, Value.oneCell', reduceIte, reduceCtorEq, Nat.reduceEqDiff, Nat.reduceAdd, Nat.reduceMul, Nat.reduceLT, Nat.reduceBEq, Nat.reduceLeDiff, Nat.reduceSub]) (by simp -implicitDefEqProofs (disch := first | decide | exact of_eq_true (eq_true rfl) | omega | assumption) only [ valOK, sgL, xiL, mv, mvA, mvL, mvS, okS, okP, okM, okMA, okML, Option.getD_some, implies_true, and_self, true_or, or_true, Int.natCast_add, Int.cast_ofNat_Int, Nat.zero_mul, Nat.sub_self, openB_self, ↓vcD, vcE, ↓vcG, vcF, evs, evP, evB, intsOf, fillC, Value.cells, pt, Value.oneCell', reduceIte, reduceCtorEq, Nat.reduceEqDiff, Nat.reduceAdd, Nat.reduceMul, Nat.reduceLT, Nat.reduceBEq, Nat.reduceLeDiff, Nat.reduceSub]) (fun _ h => by cases h) ⟨rfl, fun _ h => by cases h⟩)
      have d2' : ¬ (k : Int) = 0 := by omega
      by_cases d4 : x.a ≥ E
      · obtain rfl := bd' fun h => by omega
        refine ITri.reg pok ?_; simp -implicitDefEqProofs (disch := first | decide | exact of_eq_true (eq_true rfl) | omega | assumption) only [ ↓vcD, vcE, ↓vcG, vcF, evs, evP, evB, intsOf, fillC, Value.cells, pt, Value.oneCell', reduceIte, reduceCtorEq, Nat.reduceEqDiff, Nat.reduceAdd, Nat.reduceMul, Nat.reduceLT, Nat.reduceBEq, Nat.reduceLeDiff, Nat.reduceSub] -- r8
        refine ⟨_, _, g2 (sees0 rfl (of_decide_eq_true rfl)), ?_⟩
        simp -implicitDefEqProofs (disch := first | decide | exact of_eq_true (eq_true rfl) | omega | assumption) only [Bool.not_true, d1, d2', d4, decide_true, decide_false,  ↓vcD, vcE, ↓vcG, vcF, evs, evP, evB, intsOf, fillC, Value.cells, pt, Value.oneCell', reduceIte, reduceCtorEq, Nat.reduceEqDiff, Nat.reduceAdd, Nat.reduceMul, Nat.reduceLT, Nat.reduceBEq, Nat.reduceLeDiff, Nat.reduceSub]
        refine ITri.cond (v := true) rfl (fun _ => ?_) (fun h => by cases h)
        refine ITri.seq ?_
        refine ITri.reg pok ?_; simp -implicitDefEqProofs (disch := first | decide | exact of_eq_true (eq_true rfl) | omega | assumption) only [ ↓vcD, vcE, ↓vcG, vcF, evs, evP, evB, intsOf, fillC, Value.cells, pt, Value.oneCell', reduceIte, reduceCtorEq, Nat.reduceEqDiff, Nat.reduceAdd, Nat.reduceMul, Nat.reduceLT, Nat.reduceBEq, Nat.reduceLeDiff, Nat.reduceSub] -- r9
        refine ITri.ret ?_; exact EndR.plain (by simp) (by rfl) (by rfl) (by rfl)
      refine ITri.reg pok ?_; simp -implicitDefEqProofs (disch := first | decide | exact of_eq_true (eq_true rfl) | omega | assumption) only [ ↓vcD, vcE, ↓vcG, vcF, evs, evP, evB, intsOf, fillC, Value.cells, pt, Value.oneCell', reduceIte, reduceCtorEq, Nat.reduceEqDiff, Nat.reduceAdd, Nat.reduceMul, Nat.reduceLT, Nat.reduceBEq, Nat.reduceLeDiff, Nat.reduceSub] -- r8
      refine ⟨_, _, g2 (sees0 rfl (of_decide_eq_true rfl)), ?_⟩
      simp -implicitDefEqProofs (disch := first | decide | exact of_eq_true (eq_true rfl) | omega | assumption) only [Bool.not_true, d1, d2', d4, decide_true, decide_false,  ↓vcD, vcE, ↓vcG, vcF, evs, evP, evB, intsOf, fillC, Value.cells, pt, Value.oneCell', reduceIte, reduceCtorEq, Nat.reduceEqDiff, Nat.reduceAdd, Nat.reduceMul, Nat.reduceLT, Nat.reduceBEq, Nat.reduceLeDiff, Nat.reduceSub]
      refine ITri.cond (v := false) rfl (fun h => by cases h) (fun _ => ?_); refine ITri.skip ?_; simp only [SeqQ_normal, BlkQ_normal]
      refine ITri.reg pok ?_; simp -implicitDefEqProofs (disch := first | decide | exact of_eq_true (eq_true rfl) | omega | assumption) only [ ↓vcD, vcE, ↓vcG, vcF, evs, evP, evB, intsOf, fillC, Value.cells, pt, Value.oneCell', reduceIte, reduceCtorEq, Nat.reduceEqDiff, Nat.reduceAdd, Nat.reduceMul, Nat.reduceLT, Nat.reduceBEq, Nat.reduceLeDiff, Nat.reduceSub] -- r10
      refine ITri.reg pok ?_; simp -implicitDefEqProofs (disch := first | decide | exact of_eq_true (eq_true rfl) | omega | assumption) only [hk1,  ↓vcD, vcE, ↓vcG, vcF, evs, evP, evB, intsOf, fillC, Value.cells, pt, Value.oneCell', reduceIte, reduceCtorEq, Nat.reduceEqDiff, Nat.reduceAdd, Nat.reduceMul, Nat.reduceLT, Nat.reduceBEq, Nat.reduceLeDiff, Nat.reduceSub] -- r11
      exact LoopQ.next (k + 1) ⟨by omega, gd' ⟨rfl, by omega, fun h => absurd h d2, by omega⟩⟩ (by omega) (by rw [hnx]; exact Wk.gc [0, 1, 2, 3, 4] [] (of_decide_eq_true rfl) (of_decide_eq_true rfl) rfl rfl (of_decide_eq_true rfl) rfl rfl (by repeat (first | exact xiOK_nil | refine xiOK_cons (by first | trivial | exact roomOK _ (by decide)) ?_)) rfl (by simp -implicitDefEqProofs (disch := first | decide | exact of_eq_true (eq_true rfl) | omega | assumption) only [ objOK, sgL, xiL, objAt, nilO, OM, mvL, mv, mvS, okS, okP, mvL_rows, okML, okM, okML_rows, List.getElem?_cons_zero, Option.getD_some, implies_true, imp_self, ne_eq, and_self, true_or, or_true, Nat.zero_mul, Nat.sub_self, openB_self, ↓vcD, vcE, ↓vcG, vcF, evs, evP, evB, intsOf, fillC, Value.cells, pt, Value.oneCell', reduceIte, reduceCtorEq, Nat.reduceEqDiff, Nat.reduceAdd, Nat.reduceMul, Nat.reduceLT, Nat.reduceBEq, Nat.reduceLeDiff, Nat.reduceSub]) (by simp -implicitDefEqProofs (disch := first | decide | exact of_eq_true (eq_true rfl) | omega | assumption) only [ valOK, sgL, xiL, mv, mvA, mvL, mvS, okS, okP, okM, okMA, okML, Option.getD_some, implies_true, and_self, true_or, or_true, Int.natCast_add, Int.cast_ofNat_Int, Nat.zero_mul, Nat.sub_self, openB_self, ↓vcD, vcE, ↓vcG, vcF, evs, evP, evB, intsOf, fillC, Value.cells, pt, Value.oneCell', reduceIte, reduceCtorEq, Nat.reduceEqDiff, Nat.reduceAdd, Nat.reduceMul, Nat.reduceLT, Nat.reduceBEq, Nat.reduceLeDiff, Nat.reduceSub]) (fun _ h => by cases h) ⟨rfl, fun _ h => by cases h⟩)
  refine ITri.exit ?_; try simp -implicitDefEqProofs (disch := first | decide | exact of_eq_true (eq_true rfl) | omega | assumption) only [ ↓vcD, vcE, ↓vcG, vcF, evs, evP, evB, intsOf, fillC, Value.cells, pt, Value.oneCell', reduceIte, reduceCtorEq, Nat.reduceEqDiff, Nat.reduceAdd, Nat.reduceMul, Nat.reduceLT, Nat.reduceBEq, Nat.reduceLeDiff, Nat.reduceSub] -- exit 0
  obtain rfl : k = nT := by omega
  have hall1 := hj
  refine ITri.seq ?_
  refine ITri.reg pok ?_; simp -implicitDefEqProofs (disch := first | decide | exact of_eq_true (eq_true rfl) | omega | assumption) only [ ↓vcD, vcE, ↓vcG, vcF, evs, evP, evB, intsOf, fillC, Value.cells, pt, Value.oneCell', reduceIte, reduceCtorEq, Nat.reduceEqDiff, Nat.reduceAdd, Nat.reduceMul, Nat.reduceLT, Nat.reduceBEq, Nat.reduceLeDiff, Nat.reduceSub] -- r12
  refine ITri.seq ?_
  refine ITri.seq ?_
  refine ITri.reg pok ?_; simp -implicitDefEqProofs (disch := first | decide | exact of_eq_true (eq_true rfl) | omega | assumption) only [ ↓vcD, vcE, ↓vcG, vcF, evs, evP, evB, intsOf, fillC, Value.cells, pt, Value.oneCell', reduceIte, reduceCtorEq, Nat.reduceEqDiff, Nat.reduceAdd, Nat.reduceMul, Nat.reduceLT, Nat.reduceBEq, Nat.reduceLeDiff, Nat.reduceSub] -- r13
  refine ITri.block ?_ -- 2
  refine ITri.loop (fun k : Nat => [(1, pt 4), (4, .int .i64 (nxS S k)), (75, s2 nS cS), (76, .int .i64 nS), (77, .int .i64 k)]) (fun _ => []) (fun _ => Hp 4 [none, some (.cells ⟨rows eT T, 0, false⟩), some (.cells ⟨rows eM S, 0, false⟩), some (.cells ⟨rows eII X, 0, false⟩), some (.cells ⟨[s1 k cT, I6 E, s2 nS cS, s3 nX cX], 1, false⟩)]) (fun k => k ≤ nS ∧ ∀ j, j < k → sOK S E j) (fun k => nS - k) 0 ⟨Nat.zero_le _, fun j hj => by omega⟩ (Wk.sub ⟨rfl, rfl, rfl, rfl, rfl, trivial⟩) fun q hk => ?_
  obtain ⟨hk, hj⟩ := hk
  refine ITri.seq ?_
  refine ITri.reg pok ?_; simp -implicitDefEqProofs (disch := first | decide | exact of_eq_true (eq_true rfl) | omega | assumption) only [ ↓vcD, vcE, ↓vcG, vcF, evs, evP, evB, intsOf, fillC, Value.cells, pt, Value.oneCell', reduceIte, reduceCtorEq, Nat.reduceEqDiff, Nat.reduceAdd, Nat.reduceMul, Nat.reduceLT, Nat.reduceBEq, Nat.reduceLeDiff, Nat.reduceSub] -- r14
  refine ITri.seq ?_
  refine ITri.condD (by rfl) (fun h6 => ?_) (fun h6 => ?_) -- %78
  · have hkn : q < nS := by omega
    have g1 := takeM (xs := S) (i := q) (by omega)
    have hn0 := nxS_nn hj
    have hnx : nxS S (q + 1) = (nth S q).a + 1 := rfl
    have bd' : ¬ sOK S E q → e = 2 := fun hn => bad fun h => hn (h.s q (by omega))
    have gd' : sOK S E q → ∀ j, j < q + 1 → sOK S E j := fun h => lt_succ_all hj h
    have okd : sOK S E q = (nxS S q ≤ (nth S q).a ∧ (nth S q).a ≤ E ∧ rgI 1000000 [((nth S q).l, (nth S q).h)] = true) := rfl
    rw [okd] at bd' gd'
    clear okd
    have hk1 : (q : Int) + 1 = ((q + 1 : Nat) : Int) := by omega
    generalize nxS S q = nx at *
    generalize nth S q = x at *
    refine ITri.skip ?_; simp only [SeqQ_normal, BlkQ_normal]
    refine ITri.seq ?_
    refine ITri.block ?_ -- 3
    refine ITri.seq ?_
    refine ITri.reg pok ?_; simp -implicitDefEqProofs (disch := first | decide | exact of_eq_true (eq_true rfl) | omega | assumption) only [g1,  ↓vcD, vcE, ↓vcG, vcF, evs, evP, evB, intsOf, fillC, Value.cells, pt, Value.oneCell', reduceIte, reduceCtorEq, Nat.reduceEqDiff, Nat.reduceAdd, Nat.reduceMul, Nat.reduceLT, Nat.reduceBEq, Nat.reduceLeDiff, Nat.reduceSub] -- r15
    refine ITri.seq ?_
    refine ITri.seq ?_
    by_cases d1 : x.a < nx
    · obtain rfl := bd' fun h => by omega
      refine ITri.reg pok ?_; simp -implicitDefEqProofs (disch := first | decide | exact of_eq_true (eq_true rfl) | omega | assumption) only [d1, decide_true,  ↓vcD, vcE, ↓vcG, vcF, evs, evP, evB, intsOf, fillC, Value.cells, pt, Value.oneCell', reduceIte, reduceCtorEq, Nat.reduceEqDiff, Nat.reduceAdd, Nat.reduceMul, Nat.reduceLT, Nat.reduceBEq, Nat.reduceLeDiff, Nat.reduceSub] -- r16
      refine ITri.cond (v := true) rfl (fun _ => ?_) (fun h => by cases h)
      refine ITri.seq ?_
      refine ITri.reg pok ?_; simp -implicitDefEqProofs (disch := first | decide | exact of_eq_true (eq_true rfl) | omega | assumption) only [ ↓vcD, vcE, ↓vcG, vcF, evs, evP, evB, intsOf, fillC, Value.cells, pt, Value.oneCell', reduceIte, reduceCtorEq, Nat.reduceEqDiff, Nat.reduceAdd, Nat.reduceMul, Nat.reduceLT, Nat.reduceBEq, Nat.reduceLeDiff, Nat.reduceSub] -- r17
      refine ITri.ret ?_; exact EndR.plain (by simp) (by rfl) (by rfl) (by rfl)
    by_cases d2 : x.a > E
    · obtain rfl := bd' fun h => by omega
      refine ITri.reg pok ?_; simp -implicitDefEqProofs (disch := first | decide | exact of_eq_true (eq_true rfl) | omega | assumption) only [d1, d2, decide_true, decide_false,  ↓vcD, vcE, ↓vcG, vcF, evs, evP, evB, intsOf, fillC, Value.cells, pt, Value.oneCell', reduceIte, reduceCtorEq, Nat.reduceEqDiff, Nat.reduceAdd, Nat.reduceMul, Nat.reduceLT, Nat.reduceBEq, Nat.reduceLeDiff, Nat.reduceSub] -- r16
      refine ITri.cond (v := true) rfl (fun _ => ?_) (fun h => by cases h)
      refine ITri.seq ?_
      refine ITri.reg pok ?_; simp -implicitDefEqProofs (disch := first | decide | exact of_eq_true (eq_true rfl) | omega | assumption) only [ ↓vcD, vcE, ↓vcG, vcF, evs, evP, evB, intsOf, fillC, Value.cells, pt, Value.oneCell', reduceIte, reduceCtorEq, Nat.reduceEqDiff, Nat.reduceAdd, Nat.reduceMul, Nat.reduceLT, Nat.reduceBEq, Nat.reduceLeDiff, Nat.reduceSub] -- r17
      refine ITri.ret ?_; exact EndR.plain (by simp) (by rfl) (by rfl) (by rfl)
    refine ITri.reg pok ?_; simp -implicitDefEqProofs (disch := first | decide | exact of_eq_true (eq_true rfl) | omega | assumption) only [d1, d2, tk3_12, decide_false,  ↓vcD, vcE, ↓vcG, vcF, evs, evP, evB, intsOf, fillC, Value.cells, pt, Value.oneCell', reduceIte, reduceCtorEq, Nat.reduceEqDiff, Nat.reduceAdd, Nat.reduceMul, Nat.reduceLT, Nat.reduceBEq, Nat.reduceLeDiff, Nat.reduceSub] -- r16
    refine ⟨_, _, rg_f 1000000 [(x.l, x.h)] 1 rfl (by omega) (sees0 rfl (of_decide_eq_true rfl)) (Rd.hq rfl rfl), ?_⟩
    cases b1 : rgI 1000000 [(x.l, x.h)] with
    | false =>
      obtain rfl := bd' fun h => by rw [b1] at h; cases h.2.2
      simp -implicitDefEqProofs (disch := first | decide | exact of_eq_true (eq_true rfl) | omega | assumption) only [Bool.not_false,  ↓vcD, vcE, ↓vcG, vcF, evs, evP, evB, intsOf, fillC, Value.cells, pt, Value.oneCell', reduceIte, reduceCtorEq, Nat.reduceEqDiff, Nat.reduceAdd, Nat.reduceMul, Nat.reduceLT, Nat.reduceBEq, Nat.reduceLeDiff, Nat.reduceSub]
      refine ITri.cond (v := true) rfl (fun _ => ?_) (fun h => by cases h)
      refine ITri.seq ?_
      refine ITri.reg pok ?_; simp -implicitDefEqProofs (disch := first | decide | exact of_eq_true (eq_true rfl) | omega | assumption) only [ ↓vcD, vcE, ↓vcG, vcF, evs, evP, evB, intsOf, fillC, Value.cells, pt, Value.oneCell', reduceIte, reduceCtorEq, Nat.reduceEqDiff, Nat.reduceAdd, Nat.reduceMul, Nat.reduceLT, Nat.reduceBEq, Nat.reduceLeDiff, Nat.reduceSub] -- r17
      refine ITri.ret ?_; exact EndR.plain (by simp) (by rfl) (by rfl) (by rfl)
    | true =>
      simp -implicitDefEqProofs (disch := first | decide | exact of_eq_true (eq_true rfl) | omega | assumption) only [Bool.not_true,  ↓vcD, vcE, ↓vcG, vcF, evs, evP, evB, intsOf, fillC, Value.cells, pt, Value.oneCell', reduceIte, reduceCtorEq, Nat.reduceEqDiff, Nat.reduceAdd, Nat.reduceMul, Nat.reduceLT, Nat.reduceBEq, Nat.reduceLeDiff, Nat.reduceSub]
      refine ITri.cond (v := false) rfl (fun h => by cases h) (fun _ => ?_); refine ITri.skip ?_; simp only [SeqQ_normal, BlkQ_normal]
      refine ITri.reg pok ?_; simp -implicitDefEqProofs (disch := first | decide | exact of_eq_true (eq_true rfl) | omega | assumption) only [ ↓vcD, vcE, ↓vcG, vcF, evs, evP, evB, intsOf, fillC, Value.cells, pt, Value.oneCell', reduceIte, reduceCtorEq, Nat.reduceEqDiff, Nat.reduceAdd, Nat.reduceMul, Nat.reduceLT, Nat.reduceBEq, Nat.reduceLeDiff, Nat.reduceSub] -- r18
      refine ITri.reg pok ?_; simp -implicitDefEqProofs (disch := first | decide | exact of_eq_true (eq_true rfl) | omega | assumption) only [hk1,  ↓vcD, vcE, ↓vcG, vcF, evs, evP, evB, intsOf, fillC, Value.cells, pt, Value.oneCell', reduceIte, reduceCtorEq, Nat.reduceEqDiff, Nat.reduceAdd, Nat.reduceMul, Nat.reduceLT, Nat.reduceBEq, Nat.reduceLeDiff, Nat.reduceSub] -- r19
      exact LoopQ.next (q + 1) ⟨by omega, gd' ⟨by omega, by omega, b1⟩⟩ (by omega) (by rw [hnx]; exact Wk.gc [0, 1, 2, 3, 4] [] (of_decide_eq_true rfl) (of_decide_eq_true rfl) rfl rfl (of_decide_eq_true rfl) rfl rfl (by repeat (first | exact xiOK_nil | refine xiOK_cons (by first | trivial | exact roomOK _ (by decide)) ?_)) rfl (by simp -implicitDefEqProofs (disch := first | decide | exact of_eq_true (eq_true rfl) | omega | assumption) only [ objOK, sgL, xiL, objAt, nilO, OM, mvL, mv, mvS, okS, okP, mvL_rows, okML, okM, okML_rows, List.getElem?_cons_zero, Option.getD_some, implies_true, imp_self, ne_eq, and_self, true_or, or_true, Nat.zero_mul, Nat.sub_self, openB_self, ↓vcD, vcE, ↓vcG, vcF, evs, evP, evB, intsOf, fillC, Value.cells, pt, Value.oneCell', reduceIte, reduceCtorEq, Nat.reduceEqDiff, Nat.reduceAdd, Nat.reduceMul, Nat.reduceLT, Nat.reduceBEq, Nat.reduceLeDiff, Nat.reduceSub]) (by simp -implicitDefEqProofs (disch := first | decide | exact of_eq_true (eq_true rfl) | omega | assumption) only [ valOK, sgL, xiL, mv, mvA, mvL, mvS, okS, okP, okM, okMA, okML, Option.getD_some, implies_true, and_self, true_or, or_true, Int.natCast_add, Int.cast_ofNat_Int, Nat.zero_mul, Nat.sub_self, openB_self, ↓vcD, vcE, ↓vcG, vcF, evs, evP, evB, intsOf, fillC, Value.cells, pt, Value.oneCell', reduceIte, reduceCtorEq, Nat.reduceEqDiff, Nat.reduceAdd, Nat.reduceMul, Nat.reduceLT, Nat.reduceBEq, Nat.reduceLeDiff, Nat.reduceSub]) (fun _ h => by cases h) ⟨rfl, fun _ h => by cases h⟩)
  refine ITri.exit ?_; try simp -implicitDefEqProofs (disch := first | decide | exact of_eq_true (eq_true rfl) | omega | assumption) only [ ↓vcD, vcE, ↓vcG, vcF, evs, evP, evB, intsOf, fillC, Value.cells, pt, Value.oneCell', reduceIte, reduceCtorEq, Nat.reduceEqDiff, Nat.reduceAdd, Nat.reduceMul, Nat.reduceLT, Nat.reduceBEq, Nat.reduceLeDiff, Nat.reduceSub] -- exit 2
  obtain rfl : q = nS := by omega
  have hall2 := hj
  refine ITri.seq ?_
  refine ITri.reg pok ?_; simp -implicitDefEqProofs (disch := first | decide | exact of_eq_true (eq_true rfl) | omega | assumption) only [ ↓vcD, vcE, ↓vcG, vcF, evs, evP, evB, intsOf, fillC, Value.cells, pt, Value.oneCell', reduceIte, reduceCtorEq, Nat.reduceEqDiff, Nat.reduceAdd, Nat.reduceMul, Nat.reduceLT, Nat.reduceBEq, Nat.reduceLeDiff, Nat.reduceSub] -- r20
  refine ITri.seq ?_
  refine ITri.seq ?_
  refine ITri.reg pok ?_; simp -implicitDefEqProofs (disch := first | decide | exact of_eq_true (eq_true rfl) | omega | assumption) only [ ↓vcD, vcE, ↓vcG, vcF, evs, evP, evB, intsOf, fillC, Value.cells, pt, Value.oneCell', reduceIte, reduceCtorEq, Nat.reduceEqDiff, Nat.reduceAdd, Nat.reduceMul, Nat.reduceLT, Nat.reduceBEq, Nat.reduceLeDiff, Nat.reduceSub] -- r21
  refine ITri.block ?_ -- 4
  refine ITri.loop (fun k : Nat => [(1, pt 4), (4, .int .i64 (nxX X k)), (104, s3 nX cX), (105, .int .i64 nX), (106, .int .i64 k)]) (fun _ => []) (fun _ => Hp 4 [none, some (.cells ⟨rows eT T, 0, false⟩), some (.cells ⟨rows eM S, 0, false⟩), some (.cells ⟨rows eII X, 0, false⟩), some (.cells ⟨[s1 k cT, I6 E, s2 q cS, s3 nX cX], 1, false⟩)]) (fun k => k ≤ nX ∧ ∀ j, j < k → xOK X E j) (fun k => nX - k) 0 ⟨Nat.zero_le _, fun j hj => by omega⟩ (Wk.sub ⟨rfl, rfl, rfl, rfl, rfl, trivial⟩) fun p hk => ?_
  obtain ⟨hk, hj⟩ := hk
  refine ITri.seq ?_
  refine ITri.reg pok ?_; simp -implicitDefEqProofs (disch := first | decide | exact of_eq_true (eq_true rfl) | omega | assumption) only [ ↓vcD, vcE, ↓vcG, vcF, evs, evP, evB, intsOf, fillC, Value.cells, pt, Value.oneCell', reduceIte, reduceCtorEq, Nat.reduceEqDiff, Nat.reduceAdd, Nat.reduceMul, Nat.reduceLT, Nat.reduceBEq, Nat.reduceLeDiff, Nat.reduceSub] -- r22
  refine ITri.seq ?_
  refine ITri.condD (by rfl) (fun h6 => ?_) (fun h6 => ?_) -- %107
  · have hkn : p < nX := by omega
    have g1 := takeII (xs := X) (i := p) (by omega)
    have hnx : nxX X (p + 1) = (nth X p).1 := rfl
    have bd' : ¬ xOK X E p → e = 2 := fun hn => bad fun h => hn (h.x p (by omega))
    have gd' : xOK X E p → ∀ j, j < p + 1 → xOK X E j := fun h => lt_succ_all hj h
    have okd : xOK X E p = (nxX X p ≤ (nth X p).1 ∧ (nth X p).1 ≤ E ∧ 1 ≤ (nth X p).2 ∧ (nth X p).2 ≤ 5) := rfl
    rw [okd] at bd' gd'
    clear okd
    have hk1 : (p : Int) + 1 = ((p + 1 : Nat) : Int) := by omega
    generalize nxX X p = nx at *
    generalize (nth X p).1 = xa at *
    generalize (nth X p).2 = xk at *
    refine ITri.skip ?_; simp only [SeqQ_normal, BlkQ_normal]
    refine ITri.seq ?_
    refine ITri.block ?_ -- 5
    refine ITri.seq ?_
    refine ITri.reg pok ?_; simp -implicitDefEqProofs (disch := first | decide | exact of_eq_true (eq_true rfl) | omega | assumption) only [g1,  ↓vcD, vcE, ↓vcG, vcF, evs, evP, evB, intsOf, fillC, Value.cells, pt, Value.oneCell', reduceIte, reduceCtorEq, Nat.reduceEqDiff, Nat.reduceAdd, Nat.reduceMul, Nat.reduceLT, Nat.reduceBEq, Nat.reduceLeDiff, Nat.reduceSub] -- r23
    refine ITri.seq ?_
    refine ITri.seq ?_
    by_cases d1 : xa < nx
    · obtain rfl := bd' fun h => by omega
      refine ITri.reg pok ?_; simp -implicitDefEqProofs (disch := first | decide | exact of_eq_true (eq_true rfl) | omega | assumption) only [d1, decide_true,  ↓vcD, vcE, ↓vcG, vcF, evs, evP, evB, intsOf, fillC, Value.cells, pt, Value.oneCell', reduceIte, reduceCtorEq, Nat.reduceEqDiff, Nat.reduceAdd, Nat.reduceMul, Nat.reduceLT, Nat.reduceBEq, Nat.reduceLeDiff, Nat.reduceSub] -- r24
      refine ITri.cond (v := true) rfl (fun _ => ?_) (fun h => by cases h)
      refine ITri.seq ?_
      refine ITri.reg pok ?_; simp -implicitDefEqProofs (disch := first | decide | exact of_eq_true (eq_true rfl) | omega | assumption) only [ ↓vcD, vcE, ↓vcG, vcF, evs, evP, evB, intsOf, fillC, Value.cells, pt, Value.oneCell', reduceIte, reduceCtorEq, Nat.reduceEqDiff, Nat.reduceAdd, Nat.reduceMul, Nat.reduceLT, Nat.reduceBEq, Nat.reduceLeDiff, Nat.reduceSub] -- r25
      refine ITri.ret ?_; exact EndR.plain (by simp) (by rfl) (by rfl) (by rfl)
    by_cases d2 : xa > E
    · obtain rfl := bd' fun h => by omega
      refine ITri.reg pok ?_; simp -implicitDefEqProofs (disch := first | decide | exact of_eq_true (eq_true rfl) | omega | assumption) only [d1, d2, decide_true, decide_false,  ↓vcD, vcE, ↓vcG, vcF, evs, evP, evB, intsOf, fillC, Value.cells, pt, Value.oneCell', reduceIte, reduceCtorEq, Nat.reduceEqDiff, Nat.reduceAdd, Nat.reduceMul, Nat.reduceLT, Nat.reduceBEq, Nat.reduceLeDiff, Nat.reduceSub] -- r24
      refine ITri.cond (v := true) rfl (fun _ => ?_) (fun h => by cases h)
      refine ITri.seq ?_
      refine ITri.reg pok ?_; simp -implicitDefEqProofs (disch := first | decide | exact of_eq_true (eq_true rfl) | omega | assumption) only [ ↓vcD, vcE, ↓vcG, vcF, evs, evP, evB, intsOf, fillC, Value.cells, pt, Value.oneCell', reduceIte, reduceCtorEq, Nat.reduceEqDiff, Nat.reduceAdd, Nat.reduceMul, Nat.reduceLT, Nat.reduceBEq, Nat.reduceLeDiff, Nat.reduceSub] -- r25
      refine ITri.ret ?_; exact EndR.plain (by simp) (by rfl) (by rfl) (by rfl)
    by_cases d3 : xk < 1
    · obtain rfl := bd' fun h => by omega
      refine ITri.reg pok ?_; simp -implicitDefEqProofs (disch := first | decide | exact of_eq_true (eq_true rfl) | omega | assumption) only [d1, d2, d3, decide_true, decide_false,  ↓vcD, vcE, ↓vcG, vcF, evs, evP, evB, intsOf, fillC, Value.cells, pt, Value.oneCell', reduceIte, reduceCtorEq, Nat.reduceEqDiff, Nat.reduceAdd, Nat.reduceMul, Nat.reduceLT, Nat.reduceBEq, Nat.reduceLeDiff, Nat.reduceSub] -- r24
      refine ITri.cond (v := true) rfl (fun _ => ?_) (fun h => by cases h)
      refine ITri.seq ?_
      refine ITri.reg pok ?_; simp -implicitDefEqProofs (disch := first | decide | exact of_eq_true (eq_true rfl) | omega | assumption) only [ ↓vcD, vcE, ↓vcG, vcF, evs, evP, evB, intsOf, fillC, Value.cells, pt, Value.oneCell', reduceIte, reduceCtorEq, Nat.reduceEqDiff, Nat.reduceAdd, Nat.reduceMul, Nat.reduceLT, Nat.reduceBEq, Nat.reduceLeDiff, Nat.reduceSub] -- r25
      refine ITri.ret ?_; exact EndR.plain (by simp) (by rfl) (by rfl) (by rfl)
    by_cases d4 : xk > 5
    · obtain rfl := bd' fun h => by omega
      refine ITri.reg pok ?_; simp -implicitDefEqProofs (disch := first | decide | exact of_eq_true (eq_true rfl) | omega | assumption) only [d1, d2, d3, d4, decide_true, decide_false,  ↓vcD, vcE, ↓vcG, vcF, evs, evP, evB, intsOf, fillC, Value.cells, pt, Value.oneCell', reduceIte, reduceCtorEq, Nat.reduceEqDiff, Nat.reduceAdd, Nat.reduceMul, Nat.reduceLT, Nat.reduceBEq, Nat.reduceLeDiff, Nat.reduceSub] -- r24
      refine ITri.cond (v := true) rfl (fun _ => ?_) (fun h => by cases h)
      refine ITri.seq ?_
      refine ITri.reg pok ?_; simp -implicitDefEqProofs (disch := first | decide | exact of_eq_true (eq_true rfl) | omega | assumption) only [ ↓vcD, vcE, ↓vcG, vcF, evs, evP, evB, intsOf, fillC, Value.cells, pt, Value.oneCell', reduceIte, reduceCtorEq, Nat.reduceEqDiff, Nat.reduceAdd, Nat.reduceMul, Nat.reduceLT, Nat.reduceBEq, Nat.reduceLeDiff, Nat.reduceSub] -- r25
      refine ITri.ret ?_; exact EndR.plain (by simp) (by rfl) (by rfl) (by rfl)
    refine ITri.reg pok ?_; simp -implicitDefEqProofs (disch := first | decide | exact of_eq_true (eq_true rfl) | omega | assumption) only [d1, d2, d3, d4, decide_false,  ↓vcD, vcE, ↓vcG, vcF, evs, evP, evB, intsOf, fillC, Value.cells, pt, Value.oneCell', reduceIte, reduceCtorEq, Nat.reduceEqDiff, Nat.reduceAdd, Nat.reduceMul, Nat.reduceLT, Nat.reduceBEq, Nat.reduceLeDiff, Nat.reduceSub] -- r24
    refine ITri.cond (v := false) rfl (fun h => by cases h) (fun _ => ?_); refine ITri.skip ?_; simp only [SeqQ_normal, BlkQ_normal]
    refine ITri.reg pok ?_; simp -implicitDefEqProofs (disch := first | decide | exact of_eq_true (eq_true rfl) | omega | assumption) only [ ↓vcD, vcE, ↓vcG, vcF, evs, evP, evB, intsOf, fillC, Value.cells, pt, Value.oneCell', reduceIte, reduceCtorEq, Nat.reduceEqDiff, Nat.reduceAdd, Nat.reduceMul, Nat.reduceLT, Nat.reduceBEq, Nat.reduceLeDiff, Nat.reduceSub] -- r26
    refine ITri.reg pok ?_; simp -implicitDefEqProofs (disch := first | decide | exact of_eq_true (eq_true rfl) | omega | assumption) only [hk1,  ↓vcD, vcE, ↓vcG, vcF, evs, evP, evB, intsOf, fillC, Value.cells, pt, Value.oneCell', reduceIte, reduceCtorEq, Nat.reduceEqDiff, Nat.reduceAdd, Nat.reduceMul, Nat.reduceLT, Nat.reduceBEq, Nat.reduceLeDiff, Nat.reduceSub] -- r27
    exact LoopQ.next (p + 1) ⟨by omega, gd' ⟨by omega, by omega, by omega, by omega⟩⟩ (by omega) (by rw [hnx]; exact Wk.gc [0, 1, 2, 3, 4] [] (of_decide_eq_true rfl) (of_decide_eq_true rfl) rfl rfl (of_decide_eq_true rfl) rfl rfl (by repeat (first | exact xiOK_nil | refine xiOK_cons (by first | trivial | exact roomOK _ (by decide)) ?_)) rfl (by simp -implicitDefEqProofs (disch := first | decide | exact of_eq_true (eq_true rfl) | omega | assumption) only [ objOK, sgL, xiL, objAt, nilO, OM, mvL, mv, mvS, okS, okP, mvL_rows, okML, okM, okML_rows, List.getElem?_cons_zero, Option.getD_some, implies_true, imp_self, ne_eq, and_self, true_or, or_true, Nat.zero_mul, Nat.sub_self, openB_self, ↓vcD, vcE, ↓vcG, vcF, evs, evP, evB, intsOf, fillC, Value.cells, pt, Value.oneCell', reduceIte, reduceCtorEq, Nat.reduceEqDiff, Nat.reduceAdd, Nat.reduceMul, Nat.reduceLT, Nat.reduceBEq, Nat.reduceLeDiff, Nat.reduceSub]) (by simp -implicitDefEqProofs (disch := first | decide | exact of_eq_true (eq_true rfl) | omega | assumption) only [ valOK, sgL, xiL, mv, mvA, mvL, mvS, okS, okP, okM, okMA, okML, Option.getD_some, implies_true, and_self, true_or, or_true, Int.natCast_add, Int.cast_ofNat_Int, Nat.zero_mul, Nat.sub_self, openB_self, ↓vcD, vcE, ↓vcG, vcF, evs, evP, evB, intsOf, fillC, Value.cells, pt, Value.oneCell', reduceIte, reduceCtorEq, Nat.reduceEqDiff, Nat.reduceAdd, Nat.reduceMul, Nat.reduceLT, Nat.reduceBEq, Nat.reduceLeDiff, Nat.reduceSub]) (fun _ h => by cases h) ⟨rfl, fun _ h => by cases h⟩)
  refine ITri.exit ?_; try simp -implicitDefEqProofs (disch := first | decide | exact of_eq_true (eq_true rfl) | omega | assumption) only [ ↓vcD, vcE, ↓vcG, vcF, evs, evP, evB, intsOf, fillC, Value.cells, pt, Value.oneCell', reduceIte, reduceCtorEq, Nat.reduceEqDiff, Nat.reduceAdd, Nat.reduceMul, Nat.reduceLT, Nat.reduceBEq, Nat.reduceLeDiff, Nat.reduceSub] -- exit 4
  obtain rfl : p = nX := by omega
  obtain rfl : e = 0 := he.elim (·.2) fun h => absurd ⟨by omega, by omega, by omega, by omega, by omega, by rw [hT]; exact hall1, by rw [hS]; exact hall2, by rw [hX]; exact hj⟩ h.1
  refine ITri.seq ?_
  refine ITri.reg pok ?_; simp -implicitDefEqProofs (disch := first | decide | exact of_eq_true (eq_true rfl) | omega | assumption) only [ ↓vcD, vcE, ↓vcG, vcF, evs, evP, evB, intsOf, fillC, Value.cells, pt, Value.oneCell', reduceIte, reduceCtorEq, Nat.reduceEqDiff, Nat.reduceAdd, Nat.reduceMul, Nat.reduceLT, Nat.reduceBEq, Nat.reduceLeDiff, Nat.reduceSub] -- r28
  refine ITri.ret ?_; exact EndR.plain (by simp) (by rfl) (by rfl) (by rfl)
section
variable {T : List St} {S : List Sm} {X : List (Int × Int)} {E e : Int} {nT nS nX : Nat} {ps : List Int} {h : AH} {sT sS sX : Value}
theorem rd3 (rT : Rd h sT nT (rows eT T)) (rS : Rd h sS nS (rows eM S)) (rX : Rd h sX nX (rows eII X)) : RdL h [sT, sS, sX] [(nT, rows eT T), (nS, rows eM S), (nX, rows eII X)] := ⟨rT, rS, rX, trivial⟩
theorem no3 : ∀ p ∈ [((nT : Nat), rows eT T), (nS, rows eM S), (nX, rows eII X)], noAddrL p.2 = true := fun p hp => by
  simp only [List.mem_cons, List.not_mem_nil, or_false] at hp
  rcases hp with rfl | rfl | rfl
  · exact rows_no (f := eT) T
  · exact rows_no (f := eM) S
  · exact rows_no (f := eII) X
theorem run_f (hT : T.length = nT) (hS : S.length = nS) (hX : X.length = nX) (hb : E < 9223372036854775807) (he : (runOK T S X E ∧ e = 0) ∨ (¬ runOK T S X E ∧ e = 2)) (h0 : h.sees 0 = true) (rT : Rd h sT nT (rows eT T)) (rS : Rd h sS nS (rows eM S)) (rX : Rd h sX nX (rows eII X)) :
    Fc Try.prog 17 [.agg #[sT, I6 E, sS, sX]] h (.int .i64 e) h :=
  Fc.lift (os := []) (mk := fun ss => .agg ⟨ss.take 1 ++ [I6 E] ++ ss.drop 1⟩ :: []) (mkv := fun _ => .int .i64 e) (fun caps hc => by
    match caps, hc with
    | [a, b, c], _ => exact run_c hT hS hX hb he) (MkL.agg1 (MkL.split rfl) rfl) (MkV.const rfl) no3 (fun o ho => by cases ho) h0 (rd3 rT rS rX)
def bothE (ps : List Int) (T : List St) (S : List Sm) (X : List (Int × Int)) (E : Int) (e : Int) : Prop := (pulOK ps ∧ runOK T S X E ∧ e = 0) ∨ (¬ (pulOK ps ∧ runOK T S X E) ∧ e = 2)
abbrev ruV (sT sS sX : Value) (E : Int) : Value := .agg #[sT, I6 E, sS, sX]
theorem both_c {cT cS cX : Nat} (hl : ps.length = 117) (hT : T.length = nT) (hS : S.length = nS) (hX : X.length = nX) (hb : E < 9223372036854775807) (he : bothE ps T S X E e) :
    Fc Try.prog 48 [.agg ⟨rows eI ps⟩, ruV (s1 nT cT) (s2 nS cS) (s3 nX cX) E] (Hp 4 (M4 T S X)) (.int .i64 e) (Hp 4 (M4 T S X)) := by
  refine Fc.intro0 fn48 (by simp) rfl rfl ?_; simp only [argF]
  have hall1 : (rows eI ps).all Value.oneCell' = true := rows_one' (f := eI) ps
  have t117 := takeC_0 (rows eI ps) 117 (by rw [rows_len (f := eI), hl])
  refine ITri.seq ?_
  refine ITri.reg pok ?_; simp -implicitDefEqProofs (disch := first | decide | exact of_eq_true (eq_true rfl) | omega | assumption) only [hall1,  ↓vcD, vcE, ↓vcG, vcF, evs, evP, evB, intsOf, fillC, Value.cells, pt, Value.oneCell', reduceIte, reduceCtorEq, Nat.reduceEqDiff, Nat.reduceAdd, Nat.reduceMul, Nat.reduceLT, Nat.reduceBEq, Nat.reduceLeDiff, Nat.reduceSub] -- r0
  refine ITri.seq ?_
  refine ITri.seq ?_
  by_cases hp : pulOK ps
  · refine ITri.reg pok ?_; simp -implicitDefEqProofs (disch := first | decide | exact of_eq_true (eq_true rfl) | omega | assumption) only [t117,  ↓vcD, vcE, ↓vcG, vcF, evs, evP, evB, intsOf, fillC, Value.cells, pt, Value.oneCell', reduceIte, reduceCtorEq, Nat.reduceEqDiff, Nat.reduceAdd, Nat.reduceMul, Nat.reduceLT, Nat.reduceBEq, Nat.reduceLeDiff, Nat.reduceSub] -- r1
    refine ⟨_, _, puller_f (e := 0) hl (.inl ⟨hp, rfl⟩) (sees0 rfl (of_decide_eq_true rfl)), ?_⟩
    simp -implicitDefEqProofs (disch := first | decide | exact of_eq_true (eq_true rfl) | omega | assumption) only [decide_true, Bool.not_true,  ↓vcD, vcE, ↓vcG, vcF, evs, evP, evB, intsOf, fillC, Value.cells, pt, Value.oneCell', reduceIte, reduceCtorEq, Nat.reduceEqDiff, Nat.reduceAdd, Nat.reduceMul, Nat.reduceLT, Nat.reduceBEq, Nat.reduceLeDiff, Nat.reduceSub]
    by_cases hr : runOK T S X E
    · obtain rfl : e = 0 := he.elim (·.2.2) fun h => absurd ⟨hp, hr⟩ h.1
      refine ⟨_, _, run_f (e := 0) hT hS hX hb (.inl ⟨hr, rfl⟩) (sees0 rfl (of_decide_eq_true rfl)) (Rd.hq rfl rfl) (Rd.hq rfl rfl) (Rd.hq rfl rfl), ?_⟩
      simp -implicitDefEqProofs (disch := first | decide | exact of_eq_true (eq_true rfl) | omega | assumption) only [decide_true, Bool.not_true,  ↓vcD, vcE, ↓vcG, vcF, evs, evP, evB, intsOf, fillC, Value.cells, pt, Value.oneCell', reduceIte, reduceCtorEq, Nat.reduceEqDiff, Nat.reduceAdd, Nat.reduceMul, Nat.reduceLT, Nat.reduceBEq, Nat.reduceLeDiff, Nat.reduceSub]
      refine ITri.cond (v := false) rfl (fun h => by cases h) (fun _ => ?_); refine ITri.skip ?_; simp only [SeqQ_normal, BlkQ_normal]
      refine ITri.seq ?_
      refine ITri.reg pok ?_; simp -implicitDefEqProofs (disch := first | decide | exact of_eq_true (eq_true rfl) | omega | assumption) only [ ↓vcD, vcE, ↓vcG, vcF, evs, evP, evB, intsOf, fillC, Value.cells, pt, Value.oneCell', reduceIte, reduceCtorEq, Nat.reduceEqDiff, Nat.reduceAdd, Nat.reduceMul, Nat.reduceLT, Nat.reduceBEq, Nat.reduceLeDiff, Nat.reduceSub]
      refine ITri.ret ?_; exact EndR.plain (by simp) (by rfl) (by rfl) (by rfl)
    · obtain rfl : e = 2 := he.elim (fun h => absurd h.2.1 hr) (·.2)
      refine ⟨_, _, run_f (e := 2) hT hS hX hb (.inr ⟨hr, rfl⟩) (sees0 rfl (of_decide_eq_true rfl)) (Rd.hq rfl rfl) (Rd.hq rfl rfl) (Rd.hq rfl rfl), ?_⟩
      have n20 : ¬ (2 : Int) = 0 := by decide
      simp -implicitDefEqProofs (disch := first | decide | exact of_eq_true (eq_true rfl) | omega | assumption) only [n20, decide_false, Bool.not_false,  ↓vcD, vcE, ↓vcG, vcF, evs, evP, evB, intsOf, fillC, Value.cells, pt, Value.oneCell', reduceIte, reduceCtorEq, Nat.reduceEqDiff, Nat.reduceAdd, Nat.reduceMul, Nat.reduceLT, Nat.reduceBEq, Nat.reduceLeDiff, Nat.reduceSub]
      refine ITri.cond (v := true) rfl (fun _ => ?_) (fun h => by cases h)
      refine ITri.seq ?_
      refine ITri.reg pok ?_; simp -implicitDefEqProofs (disch := first | decide | exact of_eq_true (eq_true rfl) | omega | assumption) only [ ↓vcD, vcE, ↓vcG, vcF, evs, evP, evB, intsOf, fillC, Value.cells, pt, Value.oneCell', reduceIte, reduceCtorEq, Nat.reduceEqDiff, Nat.reduceAdd, Nat.reduceMul, Nat.reduceLT, Nat.reduceBEq, Nat.reduceLeDiff, Nat.reduceSub]
      refine ITri.ret ?_; exact EndR.plain (by simp) (by rfl) (by rfl) (by rfl)
  · obtain rfl : e = 2 := he.elim (fun h => absurd h.1 hp) (·.2)
    have n20 : ¬ (2 : Int) = 0 := by decide
    refine ITri.reg pok ?_; simp -implicitDefEqProofs (disch := first | decide | exact of_eq_true (eq_true rfl) | omega | assumption) only [t117,  ↓vcD, vcE, ↓vcG, vcF, evs, evP, evB, intsOf, fillC, Value.cells, pt, Value.oneCell', reduceIte, reduceCtorEq, Nat.reduceEqDiff, Nat.reduceAdd, Nat.reduceMul, Nat.reduceLT, Nat.reduceBEq, Nat.reduceLeDiff, Nat.reduceSub] -- r1
    refine ⟨_, _, puller_f (e := 2) hl (.inr ⟨hp, rfl⟩) (sees0 rfl (of_decide_eq_true rfl)), ?_⟩
    simp -implicitDefEqProofs (disch := first | decide | exact of_eq_true (eq_true rfl) | omega | assumption) only [n20, decide_false, Bool.not_false,  ↓vcD, vcE, ↓vcG, vcF, evs, evP, evB, intsOf, fillC, Value.cells, pt, Value.oneCell', reduceIte, reduceCtorEq, Nat.reduceEqDiff, Nat.reduceAdd, Nat.reduceMul, Nat.reduceLT, Nat.reduceBEq, Nat.reduceLeDiff, Nat.reduceSub]
    refine ITri.cond (v := true) rfl (fun _ => ?_) (fun h => by cases h)
    refine ITri.seq ?_
    refine ITri.reg pok ?_; simp -implicitDefEqProofs (disch := first | decide | exact of_eq_true (eq_true rfl) | omega | assumption) only [ ↓vcD, vcE, ↓vcG, vcF, evs, evP, evB, intsOf, fillC, Value.cells, pt, Value.oneCell', reduceIte, reduceCtorEq, Nat.reduceEqDiff, Nat.reduceAdd, Nat.reduceMul, Nat.reduceLT, Nat.reduceBEq, Nat.reduceLeDiff, Nat.reduceSub]
    refine ITri.ret ?_; exact EndR.plain (by simp) (by rfl) (by rfl) (by rfl)
theorem both_f (hl : ps.length = 117) (hT : T.length = nT) (hS : S.length = nS) (hX : X.length = nX) (hb : E < 9223372036854775807) (he : bothE ps T S X E e) (h0 : h.sees 0 = true) (rT : Rd h sT nT (rows eT T)) (rS : Rd h sS nS (rows eM S)) (rX : Rd h sX nX (rows eII X)) :
    Fc Try.prog 48 [.agg ⟨rows eI ps⟩, ruV sT sS sX E] h (.int .i64 e) h :=
  Fc.lift (os := []) (mk := fun ss => .agg ⟨rows eI ps⟩ :: (.agg ⟨ss.take 1 ++ [I6 E] ++ ss.drop 1⟩ :: [])) (mkv := fun _ => .int .i64 e) (fun caps hc => by
    match caps, hc with
    | [a, b, c], _ => exact both_c hl hT hS hX hb he) (MkL.cons (rows_no (f := eI) ps) (MkL.agg1 (MkL.split rfl) rfl)) (MkV.const rfl) no3 (fun o ho => by cases ho) h0 (rd3 rT rS rX)
end
end Go.Proofs.Yteddklolpcpjaaa
