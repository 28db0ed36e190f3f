/-
  Chapter 8 at the top: slice.Divide, by names.
-/
import Derived.Test.YtlhhkmkclmedgaaPorD
set_option linter.unusedSimpArgs false
set_option linter.unusedVariables false
namespace Go.Vm
open Go Go.RowKit
/-- How a function ends that returns two of its own rows among numbers. -/
theorem end_own5 {P : Program} {rs : List ResultVar} {l : Fr} {L : List (Option AObj)} {k k2 n m b sz sz2 : Nat} {x y e : Int} {cs ds : List Value} (hk : b ≤ k) (hk2 : b ≤ k2) (hne : k ≠ k2) (hno : noAddrL cs = true) (hno2 : noAddrL ds = true) (hL : L[k]? = some (some (.cells ⟨cs, sz, true⟩))) (hL2 : L[k2]? = some (some (.cells ⟨ds, sz2, true⟩)))
    (hr : resF P l (Hp b L) rs = some [.int .i64 x, .slice (some ⟨k, 0, none⟩) n openB, .slice (some ⟨k2, 0, none⟩) m openB, .int .i64 y, .int .i64 e]) :
    EndR P rs b [.cells ⟨cs, sz, true⟩, .cells ⟨ds, sz2, true⟩] (.tuple #[.int .i64 x, .slice (some ⟨b, 0, none⟩) n openB, .slice (some ⟨b + 1, 0, none⟩) m openB, .int .i64 y, .int .i64 e]) .ret l [] (Hp b L) := by
  refine ⟨by simp, rfl, _, [k, k2], [], hr, rfl, by simp [hne], by simp [hk, hk2], (fun p hp => by cases hp), ?_, ?_, fun i o2 h => .inr ?_⟩
  · show Value.tuple #[_, _, _, _, _] = .tuple ⟨[_, mvS .same ⟨(fun k' => if k' < b then k' else [k, k2].getD (k' - b) 0) b, 0, none⟩ n openB, mvS .same ⟨(fun k' => if k' < b then k' else [k, k2].getD (k' - b) 0) (b + 1), 0, none⟩ m openB, _, _]⟩
    have h1 : ¬ b + 1 < b := by omega
    have h2 : b + 1 - b = 1 := by omega
    simp [mvS, h1, h2]
    exact ⟨rfl, rfl, rfl⟩
  · exact ⟨trivial, ⟨by simp, trivial⟩, ⟨by simp, trivial⟩, trivial, trivial, trivial⟩
  · match i, h with
    | 0, h =>
      cases h
      refine ⟨(by intro e; cases e), _, (by show (Hp b L).get k = _; rw [Hp_get, hL]; rfl), ?_⟩
      exact ⟨(mvL_noAddr _ _ _ hno).symm, okML_noAddr _ _ _ hno, fun e => e, fun e => ⟨e, rfl⟩⟩
    | 1, h =>
      cases h
      refine ⟨(by intro e; cases e), _, (by show (Hp b L).get k2 = _; rw [Hp_get, hL2]; rfl), ?_⟩
      exact ⟨(mvL_noAddr _ _ _ hno2).symm, okML_noAddr _ _ _ hno2, fun e => e, fun e => ⟨e, rfl⟩⟩
end Go.Vm
namespace Go.Proofs.Ytlhhkmkclmedgaa
open Go.RowKit Go.Vm
set_option maxRecDepth 100000

theorem pS_mono {xs : List Int} (h : ∀ x ∈ xs, 0 ≤ x) {i : Nat} : ∀ {j : Nat}, i ≤ j → j ≤ xs.length → pS xs i ≤ pS xs j
  | 0, hi, _ => by
    obtain rfl : i = 0 := by omega
    exact Int.le_refl _
  | j + 1, hi, hj => by
    rcases Nat.lt_or_ge i (j + 1) with q | q
    · have := pS_mono h (show i ≤ j by omega) (by omega)
      have h2 := h _ (nth_mem (show j < xs.length by omega))
      rw [pS_succ (by omega)]
      omega
    · obtain rfl : i = j + 1 := by omega
      exact Int.le_refl _
/-- What the first parts get. -/
def qF (n : Int) (l : List Int) (i : Nat) : Int := n * pS l i / pS l l.length
theorem qF_bd {n : Int} {l : List Int} (h : ∀ x ∈ l, 0 ≤ x) (hw : 1 ≤ pS l l.length) (hn : 0 ≤ n) {i : Nat} (hi : i ≤ l.length) : 0 ≤ qF n l i ∧ qF n l i ≤ n := by
  have h0 : 0 ≤ pS l i := by have := pS_mono h (Nat.zero_le i) hi; rwa [pS_0] at this
  have h1 := pS_mono h hi (Nat.le_refl _)
  unfold qF
  refine ⟨Int.ediv_nonneg (Int.mul_nonneg hn h0) (by omega), ?_⟩
  have := Int.mul_le_mul_of_nonneg_left h1 hn
  exact Int.le_trans (Int.ediv_le_ediv (by omega) this) (by rw [Int.mul_ediv_cancel _ (by omega)]; exact Int.le_refl _)
theorem qF_0 (n : Int) (l : List Int) : qF n l 0 = 0 := by unfold qF; rw [pS_0]; simp
theorem qF_end {n : Int} {l : List Int} (hw : 1 ≤ pS l l.length) : qF n l l.length = n := by
  unfold qF
  exact Int.mul_ediv_cancel _ (by omega)
/-- What each part gets. -/
def shF (n : Int) (l : List Int) : Nat → List Int
  | 0 => []
  | i + 1 => shF n l i ++ [qF n l (i + 1) - qF n l i]
theorem shF_len {n : Int} {l : List Int} : ∀ i, (shF n l i).length = i
  | 0 => rfl
  | i + 1 => by rw [shF, List.length_append, shF_len i]; rfl
theorem shF_nth {n : Int} {l : List Int} {j : Nat} : ∀ {i : Nat}, j < i → nth (shF n l i) j = qF n l (j + 1) - qF n l j
  | i + 1, h => by
    have hl := shF_len (n := n) (l := l) i
    rw [shF]
    rcases Nat.lt_or_ge j i with q | q
    · have := shF_nth (n := n) (l := l) q
      unfold nth at this ⊢
      rw [List.getD_eq_getElem?_getD] at this ⊢
      rw [List.getElem?_append_left (by omega)]
      exact this
    · obtain rfl : j = i := by omega
      unfold nth
      rw [List.getD_eq_getElem?_getD, List.getElem?_append_right (by omega), hl, Nat.sub_self]
      rfl
/-- Each second one. -/
def pickF (r : Nat) (x : Nat → Int) : Nat → List Int
  | 0 => []
  | j + 1 => pickF r x j ++ (if j % 2 = r then [x j] else [])
theorem pickF_len (r : Nat) (x : Nat → Int) : ∀ j, (pickF r x j).length ≤ j
  | 0 => Nat.le_refl _
  | j + 1 => by
    have := pickF_len r x j
    rw [pickF, List.length_append]
    split <;> simp <;> omega

/- boule/slice.Divide · slots 94 · names 0:n 1:p 2:n 3:p 4:top 5:kerfs 6:parts 7:bottom 8:e 9:l 10:whole 11:along 12:before 13:shares 14:_ 15:x 16:until 17:_ 18:_ 19:i 20:x · results [4, 5, 6, 7, 8] -/
def ir9_r0 : IC := .reg [⟨some 3, none, false, .box (.t 1)⟩,
  ⟨some 4, none, false, .mv (.k (.int .i64 0))⟩,
  ⟨some 5, none, false, .mv (.k (.slice none 0 0))⟩,
  ⟨some 6, none, false, .mv (.k (.slice none 0 0))⟩,
  ⟨some 7, none, false, .mv (.k (.int .i64 0))⟩,
  ⟨some 8, none, false, .mv (.k (.int .i64 0))⟩] (some [0, 3, 5, 6])
def ir9_r1 : IC := .reg [⟨some 22, none, false, .mv (.t 0)⟩,
  ⟨some 23, none, false, .call (.f 26) [(.t 22), (.k (.int .i64 0)), (.k (.int .i64 1000000000000000))]⟩,
  ⟨some 24, none, false, .not (.t 23)⟩,
  ⟨some 21, none, false, .mv (.t 24)⟩] (some [0, 3, 5, 6, 21])
def ir9_r2 : IC := .reg [⟨some 4, none, false, .mv (.k (.int .i64 0))⟩,
  ⟨some 5, none, false, .mv (.k (.slice none 0 0))⟩,
  ⟨some 6, none, false, .mv (.k (.slice none 0 0))⟩,
  ⟨some 7, none, false, .mv (.k (.int .i64 0))⟩,
  ⟨some 8, none, false, .mv (.k (.int .i64 3))⟩] (some [4, 5, 6, 7, 8])
def ir9_1 : IC := .seq ir9_r2 .ret
def ir9_r3 : IC := .reg [⟨some 26, none, false, .lda 4 (.t 3)⟩,
  ⟨some 27, none, false, .call (.f 28) [(.t 26)]⟩,
  ⟨some 28, none, false, .not (.t 27)⟩,
  ⟨some 25, none, false, .mv (.t 28)⟩] (some [0, 3, 5, 6, 25])
def ir9_r4 : IC := .reg [⟨some 4, none, false, .mv (.k (.int .i64 0))⟩,
  ⟨some 5, none, false, .mv (.k (.slice none 0 0))⟩,
  ⟨some 6, none, false, .mv (.k (.slice none 0 0))⟩,
  ⟨some 7, none, false, .mv (.k (.int .i64 0))⟩,
  ⟨some 8, none, false, .mv (.k (.int .i64 2))⟩] (some [4, 5, 6, 7, 8])
def ir9_2 : IC := .seq ir9_r4 .ret
def ir9_3 : IC := .cond (.t 25) ir9_2 .skip
def ir9_4 : IC := .seq ir9_r3 ir9_3
def ir9_5 : IC := .cond (.t 21) ir9_1 ir9_4
def ir9_6 : IC := .seq ir9_r1 ir9_5
def ir9_7 : IC := .block 0 ir9_6
def ir9_r5 : IC := .reg [⟨some 29, none, false, .lda 4 (.t 3)⟩,
  ⟨some 30, none, false, .call (.f 29) [(.t 29)]⟩,
  ⟨some 9, none, false, .mv (.t 30)⟩] (some [0, 5, 6, 9])
def ir9_r6 : IC := .reg [⟨some 31, none, false, .mv (.t 9)⟩,
  ⟨some 32, none, false, .call (.f 30) [(.t 31)]⟩,
  ⟨some 10, none, false, .mv (.t 32)⟩,
  ⟨some 11, none, false, .mv (.k (.int .i64 0))⟩,
  ⟨some 12, none, false, .mv (.k (.int .i64 0))⟩] (some [0, 5, 6, 9, 10, 11, 12])
def ir9_r7 : IC := .reg [⟨some 13, none, false, .mv (.k (.slice none 0 0))⟩] (some [0, 5, 6, 9, 10, 11, 12, 13])
def ir9_r8 : IC := .reg [⟨some 33, none, false, .mv (.t 9)⟩,
  ⟨some 34, none, false, .len (.t 33)⟩,
  ⟨some 35, none, false, .mv (.k (.int .i64 0))⟩] (some [0, 5, 6, 10, 11, 12, 13, 33, 34, 35])
def ir9_r9 : IC := .reg [⟨some 36, none, false, .cmp .lss (.t 35) (.t 34)⟩] (some [0, 5, 6, 10, 11, 12, 13, 33, 34, 35, 36])
def ir9_8 : IC := .cond (.t 36) .skip (.exit 1)
def ir9_r10 : IC := .reg [⟨some 37, none, false, .iad 1 (.t 33) (.t 35)⟩,
  ⟨some 38, none, false, .ldc (.t 37)⟩,
  ⟨some 15, none, false, .mv (.t 38)⟩] (some [0, 5, 6, 10, 11, 12, 13, 15, 33, 34, 35])
def ir9_r11 : IC := .reg [⟨some 39, none, false, .mv (.t 11)⟩,
  ⟨some 40, none, false, .mv (.t 15)⟩,
  ⟨some 41, none, false, .ar .add (.t 39) (.t 40)⟩,
  ⟨some 11, none, false, .mv (.t 41)⟩] (some [0, 5, 6, 10, 11, 12, 13, 33, 34, 35])
def ir9_r12 : IC := .reg [⟨some 43, none, false, .mv (.t 0)⟩,
  ⟨some 44, none, false, .mv (.t 11)⟩,
  ⟨some 45, none, false, .mv (.t 10)⟩,
  ⟨some 46, none, false, .call (.f 14) [(.t 43), (.t 44), (.t 45), (.k (.int .u8 1))]⟩,
  ⟨some 42, none, false, .mv (.t 46)⟩,
  ⟨some 47, none, false, .ext (.t 42) 0⟩,
  ⟨some 48, none, false, .ext (.t 42) 1⟩,
  ⟨some 49, none, false, .ext (.t 42) 2⟩,
  ⟨some 16, none, false, .mv (.t 47)⟩,
  ⟨some 17, none, false, .mv (.t 48)⟩,
  ⟨some 18, none, false, .mv (.t 49)⟩] (some [0, 5, 6, 10, 11, 12, 13, 16, 33, 34, 35])
def ir9_r13 : IC := .reg [⟨some 50, none, false, .mv (.t 13)⟩,
  ⟨some 51, none, false, .mv (.t 16)⟩,
  ⟨some 52, none, false, .mv (.t 12)⟩,
  ⟨some 53, none, false, .ar .sub (.t 51) (.t 52)⟩,
  ⟨some 54, none, false, .bsl 1 1 [(.int .i64 0)] [(0, (.t 53))]⟩,
  ⟨some 55, none, false, .app 1 8 (.t 50) (.t 54)⟩,
  ⟨some 13, none, false, .mv (.t 55)⟩] (some [0, 5, 6, 10, 11, 13, 16, 33, 34, 35])
def ir9_r14 : IC := .reg [⟨some 56, none, false, .mv (.t 16)⟩,
  ⟨some 12, none, false, .mv (.t 56)⟩] (some [0, 5, 6, 10, 11, 12, 13, 33, 34, 35])
def ir9_9 : IC := .seq ir9_r13 ir9_r14
def ir9_10 : IC := .seq ir9_r12 ir9_9
def ir9_11 : IC := .seq ir9_r11 ir9_10
def ir9_12 : IC := .seq ir9_r10 ir9_11
def ir9_13 : IC := .block 2 ir9_12
def ir9_r15 : IC := .reg [⟨some 57, none, false, .ar .add (.t 35) (.k (.int .i64 1))⟩,
  ⟨some 35, none, false, .mv (.t 57)⟩] (some [0, 5, 6, 10, 11, 12, 13, 33, 34, 35])
def ir9_14 : IC := .seq ir9_13 ir9_r15
def ir9_15 : IC := .seq ir9_8 ir9_14
def ir9_16 : IC := .seq ir9_r9 ir9_15
def ir9_17 : IC := .loop ir9_16
def ir9_18 : IC := .block 1 ir9_17
def ir9_19 : IC := .seq ir9_r8 ir9_18
def ir9_r16 : IC := .draw [(⟨some 58, none, false, .mv (.t 13)⟩, false, 0, 0),
  (⟨some 59, none, false, .iad 1 (.t 58) (.k (.int .i64 0))⟩, false, 1, 0),
  (⟨some 60, none, false, .ldc (.t 59)⟩, false, 3, 1),
  (⟨some 61, none, false, .mv (.t 13)⟩, false, 0, 0),
  (⟨some 62, none, false, .mv (.t 13)⟩, false, 0, 0),
  (⟨some 63, none, false, .len (.t 62)⟩, false, 16, 4),
  (⟨some 64, none, false, .ar .sub (.t 63) (.k (.int .i64 1))⟩, false, 48, 0),
  (⟨some 65, none, false, .iad 1 (.t 61) (.t 64)⟩, false, 120, 0),
  (⟨some 66, none, false, .ldc (.t 65)⟩, false, 248, 4),
  (⟨some 4, none, false, .mv (.t 60)⟩, false, 7, 0),
  (⟨some 7, none, false, .mv (.t 66)⟩, false, 1023, 0)] (some [4, 5, 6, 7, 13])
def ir9_r17 : IC := .reg [⟨some 67, none, false, .mv (.t 13)⟩,
  ⟨some 68, none, false, .mv (.t 13)⟩,
  ⟨some 69, none, false, .len (.t 68)⟩,
  ⟨some 70, none, false, .ar .sub (.t 69) (.k (.int .i64 1))⟩,
  ⟨some 71, none, false, .gen (.slice 33 (.tmp 67) (some (.const (.int .i64 1))) (some (.tmp 70)) none)⟩,
  ⟨some 72, none, false, .len (.t 71)⟩,
  ⟨some 73, none, false, .mv (.k (.int .i64 0))⟩] (some [4, 5, 6, 7, 71, 72, 73])
def ir9_r18 : IC := .reg [⟨some 74, none, false, .cmp .lss (.t 73) (.t 72)⟩] (some [4, 5, 6, 7, 71, 72, 73, 74])
def ir9_20 : IC := .cond (.t 74) .skip (.exit 3)
def ir9_r19 : IC := .reg [⟨some 75, none, false, .mv (.t 73)⟩,
  ⟨some 76, none, false, .iad 1 (.t 71) (.t 73)⟩,
  ⟨some 77, none, false, .ldc (.t 76)⟩,
  ⟨some 19, none, false, .mv (.t 75)⟩,
  ⟨some 20, none, false, .mv (.t 77)⟩] (some [4, 5, 6, 7, 19, 20, 71, 72, 73])
def ir9_r20 : IC := .reg [⟨some 78, none, false, .mv (.t 19)⟩,
  ⟨some 79, none, false, .div .rem (.t 78) (.k (.int .i64 2))⟩,
  ⟨some 80, none, false, .cmp .eql (.t 79) (.k (.int .i64 0))⟩] (some [4, 5, 6, 7, 20, 71, 72, 73, 80])
def ir9_r21 : IC := .reg [⟨some 81, none, false, .mv (.t 5)⟩,
  ⟨some 82, none, false, .mv (.t 20)⟩,
  ⟨some 83, none, false, .bsl 1 1 [(.int .i64 0)] [(0, (.t 82))]⟩,
  ⟨some 84, none, false, .app 1 8 (.t 81) (.t 83)⟩,
  ⟨some 5, none, false, .mv (.t 84)⟩] (some [4, 5, 6, 7, 71, 72, 73])
def ir9_r22 : IC := .reg [⟨some 85, none, false, .mv (.t 6)⟩,
  ⟨some 86, none, false, .mv (.t 20)⟩,
  ⟨some 87, none, false, .bsl 1 1 [(.int .i64 0)] [(0, (.t 86))]⟩,
  ⟨some 88, none, false, .app 1 8 (.t 85) (.t 87)⟩,
  ⟨some 6, none, false, .mv (.t 88)⟩] (some [4, 5, 6, 7, 71, 72, 73])
def ir9_21 : IC := .cond (.t 80) ir9_r21 ir9_r22
def ir9_22 : IC := .seq ir9_r20 ir9_21
def ir9_23 : IC := .seq ir9_r19 ir9_22
def ir9_24 : IC := .block 4 ir9_23
def ir9_r23 : IC := .reg [⟨some 89, none, false, .ar .add (.t 73) (.k (.int .i64 1))⟩,
  ⟨some 73, none, false, .mv (.t 89)⟩] (some [4, 5, 6, 7, 71, 72, 73])
def ir9_25 : IC := .seq ir9_24 ir9_r23
def ir9_26 : IC := .seq ir9_20 ir9_25
def ir9_27 : IC := .seq ir9_r18 ir9_26
def ir9_28 : IC := .loop ir9_27
def ir9_29 : IC := .block 3 ir9_28
def ir9_30 : IC := .seq ir9_r17 ir9_29
def ir9_r24 : IC := .reg [⟨some 90, none, false, .mv (.t 4)⟩,
  ⟨some 91, none, false, .mv (.t 5)⟩,
  ⟨some 92, none, false, .mv (.t 6)⟩,
  ⟨some 93, none, false, .mv (.t 7)⟩,
  ⟨some 4, none, false, .mv (.t 90)⟩,
  ⟨some 5, none, false, .mv (.t 91)⟩,
  ⟨some 6, none, false, .mv (.t 92)⟩,
  ⟨some 7, none, false, .mv (.t 93)⟩,
  ⟨some 8, none, false, .mv (.k (.int .i64 0))⟩] (some [4, 5, 6, 7, 8])
def ir9_31 : IC := .seq ir9_r24 .ret
def ir9_32 : IC := .seq ir9_30 ir9_31
def ir9_33 : IC := .seq ir9_r16 ir9_32
def ir9_34 : IC := .seq ir9_19 ir9_33
def ir9_35 : IC := .seq ir9_r7 ir9_34
def ir9_36 : IC := .seq ir9_r6 ir9_35
def ir9_37 : IC := .seq ir9_r5 ir9_36
def ir9_38 : IC := .seq ir9_7 ir9_37
def ir9_39 : IC := .seq ir9_r0 ir9_38
def ir9 : IC := ir9_39
theorem fn9 : FnIs Try.prog 9 ir9 94 [.tmp 4, .tmp 5, .tmp 6, .tmp 7, .tmp 8] := ⟨Try.f9, Try.f9.body.getD .skip, Try.func9, by kernel_rfl, by kernel_rfl, by kernel_rfl, by kernel_rfl⟩
abbrev xF (n : Int) (l : List Int) (j : Nat) : Int := nth (shF n l l.length) (j + 1)
def dvV (b : Nat) (n : Int) (l : List Int) : Value := .tuple #[.int .i64 (nth (shF n l l.length) 0), sO b (pickF 0 (xF n l) (l.length - 2)).length, sO (b + 1) (pickF 1 (xF n l) (l.length - 2)).length, .int .i64 (nth (shF n l l.length) (l.length - 1)), .int .i64 0]
def dvO (n : Int) (l : List Int) : List AObj := [.cells ⟨rows eI (pickF 0 (xF n l) (l.length - 2)), 1, true⟩, .cells ⟨rows eI (pickF 1 (xF n l) (l.length - 2)), 1, true⟩]
theorem divideE_c (n : Int) (K S : List Int) (t u : Int) (k s : Nat) (hn : inB n 0 1000000000000000 = false) :
    Fc Try.prog 9 [.int .i64 n, ptV 1 2 s k t u] (Hp 3 (PM S K)) (.tuple #[.int .i64 0, .slice none 0 0, .slice none 0 0, .int .i64 0, .int .i64 3]) (Hp 3 (PM S K)) := by
  refine Fc.intro0 fn9 (by simp) rfl rfl ?_; simp only [argF]
  refine ITri.seq ?_
  refine ITri.reg pok ?_; simp -implicitDefEqProofs (disch := first | decide | exact of_eq_true (eq_true rfl) | omega | assumption) only [ ↓vcD, vcE, ↓vcG, vcF, evs, evP, evB, intsOf, fillC, Value.cells, pt, Value.oneCell', reduceIte, reduceCtorEq, Nat.reduceEqDiff, Nat.reduceAdd, Nat.reduceMul, Nat.reduceLT, Nat.reduceBEq, Nat.reduceLeDiff, Nat.reduceSub] -- r0 parts.go:32
  refine ITri.seq ?_
  refine ITri.block ?_ -- 0
  refine ITri.seq ?_
  refine ITri.reg pok ?_; simp -implicitDefEqProofs (disch := first | decide | exact of_eq_true (eq_true rfl) | omega | assumption) only [ ↓vcD, vcE, ↓vcG, vcF, evs, evP, evB, intsOf, fillC, Value.cells, pt, Value.oneCell', reduceIte, reduceCtorEq, Nat.reduceEqDiff, Nat.reduceAdd, Nat.reduceMul, Nat.reduceLT, Nat.reduceBEq, Nat.reduceLeDiff, Nat.reduceSub] -- r1 parts.go:34 CALLS .call F26 [%22, 0, 1000000000000000]
  refine ⟨_, _, within_f _ _ _ (sees0 rfl (of_decide_eq_true rfl)), ?_⟩
  simp -implicitDefEqProofs (disch := first | decide | exact of_eq_true (eq_true rfl) | omega | assumption) only [hn,  ↓vcD, vcE, ↓vcG, vcF, evs, evP, evB, intsOf, fillC, Value.cells, pt, Value.oneCell', reduceIte, reduceCtorEq, Nat.reduceEqDiff, Nat.reduceAdd, Nat.reduceMul, Nat.reduceLT, Nat.reduceBEq, Nat.reduceLeDiff, Nat.reduceSub]
  refine ITri.cond (v := true) rfl (fun _ => ?_) (fun h => by cases h)
  refine ITri.seq ?_
  refine ITri.reg pok ?_; simp -implicitDefEqProofs (disch := first | decide | exact of_eq_true (eq_true rfl) | omega | assumption) only [ ↓vcD, vcE, ↓vcG, vcF, evs, evP, evB, intsOf, fillC, Value.cells, pt, Value.oneCell', reduceIte, reduceCtorEq, Nat.reduceEqDiff, Nat.reduceAdd, Nat.reduceMul, Nat.reduceLT, Nat.reduceBEq, Nat.reduceLeDiff, Nat.reduceSub] -- r2 parts.go:35
  refine ITri.ret ?_; exact EndR.plain (vs := [.int .i64 0, .slice none 0 0, .slice none 0 0, .int .i64 0, .int .i64 3]) (by simp) (by rfl) (by rfl) (by rfl)
theorem divide_c (n : Int) (K S : List Int) (t u : Int) (k s : Nat) (hk : K.length = k) (hs : S.length = s) (V : PV S K t u) (hn : inB n 0 1000000000000000 = true) :
    Fc Try.prog 9 [.int .i64 n, ptV 1 2 s k t u] (Hp 3 (PM S K)) (dvV 3 n (lensF t u K S)) ((Hp 3 (PM S K)).news (dvO n (lensF t u K S))) := by
  have v1 := V.k2
  have v2 := V.s
  have v4 := lens_len t u K S
  have hsum := V.sum
  have hps := V.ps
  have hall := V.all
  obtain ⟨n1, n2⟩ := in_ok hn
  have hN : (lensF t u K S).length ≤ 6000 := by omega
  have hN2 : 2 ≤ (lensF t u K S).length := by omega
  refine Fc.introR fn9 (by simp) rfl rfl ?_; simp only [argF]
  refine ITri.seq ?_
  refine ITri.reg pok ?_; simp -implicitDefEqProofs (disch := first | decide | exact of_eq_true (eq_true rfl) | omega | assumption) only [ ↓vcD, vcE, ↓vcG, vcF, evs, evP, evB, intsOf, fillC, Value.cells, pt, Value.oneCell', reduceIte, reduceCtorEq, Nat.reduceEqDiff, Nat.reduceAdd, Nat.reduceMul, Nat.reduceLT, Nat.reduceBEq, Nat.reduceLeDiff, Nat.reduceSub] -- r0 parts.go:32
  refine ITri.seq ?_
  refine ITri.block ?_ -- 0
  refine ITri.seq ?_
  refine ITri.reg pok ?_; simp -implicitDefEqProofs (disch := first | decide | exact of_eq_true (eq_true rfl) | omega | assumption) only [ ↓vcD, vcE, ↓vcG, vcF, evs, evP, evB, intsOf, fillC, Value.cells, pt, Value.oneCell', reduceIte, reduceCtorEq, Nat.reduceEqDiff, Nat.reduceAdd, Nat.reduceMul, Nat.reduceLT, Nat.reduceBEq, Nat.reduceLeDiff, Nat.reduceSub] -- r1 parts.go:34 CALLS .call F26 [%22, 0, 1000000000000000]
  refine ⟨_, _, within_f _ _ _ (sees0 rfl (of_decide_eq_true rfl)), ?_⟩
  simp -implicitDefEqProofs (disch := first | decide | exact of_eq_true (eq_true rfl) | omega | assumption) only [hn,  ↓vcD, vcE, ↓vcG, vcF, evs, evP, evB, intsOf, fillC, Value.cells, pt, Value.oneCell', reduceIte, reduceCtorEq, Nat.reduceEqDiff, Nat.reduceAdd, Nat.reduceMul, Nat.reduceLT, Nat.reduceBEq, Nat.reduceLeDiff, Nat.reduceSub]
  refine ITri.cond (v := false) rfl (fun h => by cases h) (fun _ => ?_)
  refine ITri.seq ?_
  refine ITri.reg pok ?_; simp -implicitDefEqProofs (disch := first | decide | exact of_eq_true (eq_true rfl) | omega | assumption) only [ ↓vcD, vcE, ↓vcG, vcF, evs, evP, evB, intsOf, fillC, Value.cells, pt, Value.oneCell', reduceIte, reduceCtorEq, Nat.reduceEqDiff, Nat.reduceAdd, Nat.reduceMul, Nat.reduceLT, Nat.reduceBEq, Nat.reduceLeDiff, Nat.reduceSub] -- r3 parts.go:36 CALLS .call F28 [%26]
  refine ⟨_, _, areParts_f hk hs V (sees0 rfl (of_decide_eq_true rfl)) (get_hq rfl rfl) (get_hq rfl rfl), ?_⟩
  try simp -implicitDefEqProofs (disch := first | decide | exact of_eq_true (eq_true rfl) | omega | assumption) only [ ↓vcD, vcE, ↓vcG, vcF, evs, evP, evB, intsOf, fillC, Value.cells, pt, Value.oneCell', reduceIte, reduceCtorEq, Nat.reduceEqDiff, Nat.reduceAdd, Nat.reduceMul, Nat.reduceLT, Nat.reduceBEq, Nat.reduceLeDiff, Nat.reduceSub]
  refine ITri.cond (v := false) rfl (fun h => by cases h) (fun _ => ?_); refine ITri.skip ?_; simp only [SeqQ_normal, BlkQ_normal]
  refine ITri.seq ?_
  refine ITri.reg pok ?_; simp -implicitDefEqProofs (disch := first | decide | exact of_eq_true (eq_true rfl) | omega | assumption) only [ ↓vcD, vcE, ↓vcG, vcF, evs, evP, evB, intsOf, fillC, Value.cells, pt, Value.oneCell', reduceIte, reduceCtorEq, Nat.reduceEqDiff, Nat.reduceAdd, Nat.reduceMul, Nat.reduceLT, Nat.reduceBEq, Nat.reduceLeDiff, Nat.reduceSub] -- r5 parts.go:39 CALLS .call F29 [%29]
  refine ⟨_, _, lengths_f hk hs (by omega) (by omega) (sees0 rfl (of_decide_eq_true rfl)) (get_hq rfl rfl) (get_hq rfl rfl), ?_⟩
  try simp -implicitDefEqProofs (disch := first | decide | exact of_eq_true (eq_true rfl) | omega | assumption) only [ ↓vcD, vcE, ↓vcG, vcF, evs, evP, evB, intsOf, fillC, Value.cells, pt, Value.oneCell', reduceIte, reduceCtorEq, Nat.reduceEqDiff, Nat.reduceAdd, Nat.reduceMul, Nat.reduceLT, Nat.reduceBEq, Nat.reduceLeDiff, Nat.reduceSub]
  generalize hlF : lensF t u K S = l at *
  generalize hNN : l.length = N at *
  refine ITri.seq ?_
  refine ITri.reg pok ?_; simp -implicitDefEqProofs (disch := first | decide | exact of_eq_true (eq_true rfl) | omega | assumption) only [ ↓vcD, vcE, ↓vcG, vcF, evs, evP, evB, intsOf, fillC, Value.cells, pt, Value.oneCell', reduceIte, reduceCtorEq, Nat.reduceEqDiff, Nat.reduceAdd, Nat.reduceMul, Nat.reduceLT, Nat.reduceBEq, Nat.reduceLeDiff, Nat.reduceSub] -- r6 parts.go:40 CALLS .call F30 [%31]
  refine ⟨_, _, sum_f hNN hps (by omega) (sees0 rfl (of_decide_eq_true rfl)) (Rd.hq rfl rfl), ?_⟩
  try simp -implicitDefEqProofs (disch := first | decide | exact of_eq_true (eq_true rfl) | omega | assumption) only [ ↓vcD, vcE, ↓vcG, vcF, evs, evP, evB, intsOf, fillC, Value.cells, pt, Value.oneCell', reduceIte, reduceCtorEq, Nat.reduceEqDiff, Nat.reduceAdd, Nat.reduceMul, Nat.reduceLT, Nat.reduceBEq, Nat.reduceLeDiff, Nat.reduceSub]
  refine ITri.seq ?_
  refine ITri.reg pok ?_; simp -implicitDefEqProofs (disch := first | decide | exact of_eq_true (eq_true rfl) | omega | assumption) only [ ↓vcD, vcE, ↓vcG, vcF, evs, evP, evB, intsOf, fillC, Value.cells, pt, Value.oneCell', reduceIte, reduceCtorEq, Nat.reduceEqDiff, Nat.reduceAdd, Nat.reduceMul, Nat.reduceLT, Nat.reduceBEq, Nat.reduceLeDiff, Nat.reduceSub] -- r7 parts.go:41
  refine ITri.seq ?_
  refine ITri.seq ?_
  refine ITri.reg pok ?_; simp -implicitDefEqProofs (disch := first | decide | exact of_eq_true (eq_true rfl) | omega | assumption) only [ ↓vcD, vcE, ↓vcG, vcF, evs, evP, evB, intsOf, fillC, Value.cells, pt, Value.oneCell', reduceIte, reduceCtorEq, Nat.reduceEqDiff, Nat.reduceAdd, Nat.reduceMul, Nat.reduceLT, Nat.reduceBEq, Nat.reduceLeDiff, Nat.reduceSub] -- r8 parts.go:42
  refine ITri.block ?_ -- 1
  have hW : pS l N = pS l l.length := by rw [hNN]
  have hpos : ∀ x ∈ l, 0 ≤ x := fun x hx => (hall x hx).1
  have z0 : qF n l 0 = 0 := qF_0 n l
  have z1 : pS l 0 = 0 := rfl
  have z2 : rows eI (shF n l 0) = [] := rfl
  refine ITri.loop (fun i : Nat => [(0, .int .i64 n), (5, .slice none 0 0), (6, .slice none 0 0), (10, .int .i64 (pS l N)), (11, .int .i64 (pS l i)), (12, .int .i64 (qF n l i)), (13, sO 4 i), (33, sO 3 N), (34, .int .i64 N), (35, .int .i64 i)]) (fun _ => []) (fun i => Hp 3 (PM S K ++ [some (.cells ⟨rows eI l, 1, true⟩), some (.cells ⟨rows eI (shF n l i), 1, true⟩)])) (fun i => i ≤ N) (fun i => N - i) 0 (by omega) (Wk.gc [0, 1, 2, 4, 5] [(4, .nil)] (of_decide_eq_true rfl) (of_decide_eq_true rfl) rfl rfl (of_decide_eq_true rfl) rfl rfl (by repeat (first | exact xiOK_nil | refine xiOK_cons (by first | trivial | exact roomOK _ (by decide)) ?_)) rfl (by simp -implicitDefEqProofs (disch := first | decide | exact of_eq_true (eq_true rfl) | omega | assumption) only [z0, z1, z2, objOK, sgL, xiL, objAt, nilO, OM, mvL, mv, mvS, okS, okP, mvL_rows, okML, okM, okML_rows, List.getElem?_cons_zero, Option.getD_some, implies_true, imp_self, ne_eq, and_self, true_or, or_true, Nat.zero_mul, Nat.sub_self, openB_self, ↓vcD, vcE, ↓vcG, vcF, evs, evP, evB, intsOf, fillC, Value.cells, pt, Value.oneCell', reduceIte, reduceCtorEq, Nat.reduceEqDiff, Nat.reduceAdd, Nat.reduceMul, Nat.reduceLT, Nat.reduceBEq, Nat.reduceLeDiff, Nat.reduceSub]) (by simp -implicitDefEqProofs (disch := first | decide | exact of_eq_true (eq_true rfl) | omega | assumption) only [z0, z1, z2, valOK, sgL, xiL, mv, mvA, mvL, mvS, okS, okP, okM, okMA, okML, Option.getD_some, implies_true, and_self, true_or, or_true, Int.natCast_add, Int.cast_ofNat_Int, Nat.zero_mul, Nat.sub_self, openB_self, ↓vcD, vcE, ↓vcG, vcF, evs, evP, evB, intsOf, fillC, Value.cells, pt, Value.oneCell', reduceIte, reduceCtorEq, Nat.reduceEqDiff, Nat.reduceAdd, Nat.reduceMul, Nat.reduceLT, Nat.reduceBEq, Nat.reduceLeDiff, Nat.reduceSub]) (fun _ h => by cases h) ⟨rfl, fun _ h => by cases h⟩) fun i hi => ?_
  have hlr : (rows eI (shF n l i)).length = i * 1 := by rw [rows_len, shF_len]
  have hi1 : ((i : Int) + 1) = ((i + 1 : Nat) : Int) := by omega
  refine ITri.seq ?_
  refine ITri.reg pok ?_; simp -implicitDefEqProofs (disch := first | decide | exact of_eq_true (eq_true rfl) | omega | assumption) only [ ↓vcD, vcE, ↓vcG, vcF, evs, evP, evB, intsOf, fillC, Value.cells, pt, Value.oneCell', reduceIte, reduceCtorEq, Nat.reduceEqDiff, Nat.reduceAdd, Nat.reduceMul, Nat.reduceLT, Nat.reduceBEq, Nat.reduceLeDiff, Nat.reduceSub] -- r9 parts.go:42
  refine ITri.seq ?_
  refine ITri.condD (by rfl) (fun h2 => ?_) (fun h2 => ?_) -- %36
  · have hir : i < l.length := by omega
    have b1 := hps i hi
    have b2 := hps (i + 1) (by omega)
    have e1 := pS_succ hir
    have gv := getI hir
    have q1 := qF_bd hpos (by rw [← hW]; omega) n1 (i := i) (by omega)
    have q2 := qF_bd hpos (by rw [← hW]; omega) n1 (i := i + 1) (by omega)
    have hq : n * pS l (i + 1) / pS l N = qF n l (i + 1) := by unfold qF; rw [hNN]
    have hmd : ∀ {h : AH}, h.sees 0 = true → Fc Try.prog 14 [.int .i64 n, .int .i64 (pS l (i + 1)), .int .i64 (pS l N), .int .u8 1] h (.tuple #[.int .i64 (qF n l (i + 1)), .int .i64 (n * pS l (i + 1) % pS l N), .int .i64 0]) h := fun hs => by
      have := mulDivW_f n (pS l (i + 1)) (pS l N) n1 n2 b2.1 b2.2 (by omega) (by omega) (by rw [hq]; omega) hs
      rwa [hq] at this
    generalize n * pS l (i + 1) % pS l N = rr at *
    have r1 : rows eI (shF n l i) ++ [Value.int .i64 (qF n l (i + 1) - qF n l i)] = rows eI (shF n l (i + 1)) := by
      rw [shF, rows_append]
      rfl
    refine ITri.skip ?_; simp only [SeqQ_normal, BlkQ_normal]
    refine ITri.seq ?_
    refine ITri.block ?_ -- 2
    refine ITri.seq ?_
    refine ITri.reg pok ?_; simp -implicitDefEqProofs (disch := first | decide | exact of_eq_true (eq_true rfl) | omega | assumption) only [gv,  ↓vcD, vcE, ↓vcG, vcF, evs, evP, evB, intsOf, fillC, Value.cells, pt, Value.oneCell', reduceIte, reduceCtorEq, Nat.reduceEqDiff, Nat.reduceAdd, Nat.reduceMul, Nat.reduceLT, Nat.reduceBEq, Nat.reduceLeDiff, Nat.reduceSub] -- r10 parts.go:42
    refine ITri.seq ?_
    refine ITri.reg pok ?_; simp -implicitDefEqProofs (disch := first | decide | exact of_eq_true (eq_true rfl) | omega | assumption) only [e1,  ↓vcD, vcE, ↓vcG, vcF, evs, evP, evB, intsOf, fillC, Value.cells, pt, Value.oneCell', reduceIte, reduceCtorEq, Nat.reduceEqDiff, Nat.reduceAdd, Nat.reduceMul, Nat.reduceLT, Nat.reduceBEq, Nat.reduceLeDiff, Nat.reduceSub] -- r11 parts.go:43
    rw [← e1]
    refine ITri.seq ?_
    refine ITri.reg pok ?_; simp -implicitDefEqProofs (disch := first | decide | exact of_eq_true (eq_true rfl) | omega | assumption) only [ ↓vcD, vcE, ↓vcG, vcF, evs, evP, evB, intsOf, fillC, Value.cells, pt, Value.oneCell', reduceIte, reduceCtorEq, Nat.reduceEqDiff, Nat.reduceAdd, Nat.reduceMul, Nat.reduceLT, Nat.reduceBEq, Nat.reduceLeDiff, Nat.reduceSub] -- r12 parts.go:44 CALLS .call F14 [%43, %44, %45, (.k (.int .u8 1))]
    refine ⟨_, _, hmd (sees0 rfl (of_decide_eq_true rfl)), ?_⟩
    try simp -implicitDefEqProofs (disch := first | decide | exact of_eq_true (eq_true rfl) | omega | assumption) only [ ↓vcD, vcE, ↓vcG, vcF, evs, evP, evB, intsOf, fillC, Value.cells, pt, Value.oneCell', reduceIte, reduceCtorEq, Nat.reduceEqDiff, Nat.reduceAdd, Nat.reduceMul, Nat.reduceLT, Nat.reduceBEq, Nat.reduceLeDiff, Nat.reduceSub]
    refine ITri.seq ?_
    refine ITri.reg pok ?_; simp -implicitDefEqProofs (disch := first | decide | exact of_eq_true (eq_true rfl) | omega | assumption) only [hlr,  ↓vcD, vcE, ↓vcG, vcF, evs, evP, evB, intsOf, fillC, Value.cells, pt, Value.oneCell', reduceIte, reduceCtorEq, Nat.reduceEqDiff, Nat.reduceAdd, Nat.reduceMul, Nat.reduceLT, Nat.reduceBEq, Nat.reduceLeDiff, Nat.reduceSub] -- r13 parts.go:45
    rw [r1]
    refine ITri.reg pok ?_; simp -implicitDefEqProofs (disch := first | decide | exact of_eq_true (eq_true rfl) | omega | assumption) only [ ↓vcD, vcE, ↓vcG, vcF, evs, evP, evB, intsOf, fillC, Value.cells, pt, Value.oneCell', reduceIte, reduceCtorEq, Nat.reduceEqDiff, Nat.reduceAdd, Nat.reduceMul, Nat.reduceLT, Nat.reduceBEq, Nat.reduceLeDiff, Nat.reduceSub] -- r14 parts.go:46
    refine ITri.reg pok ?_; simp -implicitDefEqProofs (disch := first | decide | exact of_eq_true (eq_true rfl) | omega | assumption) only [hi1,  ↓vcD, vcE, ↓vcG, vcF, evs, evP, evB, intsOf, fillC, Value.cells, pt, Value.oneCell', reduceIte, reduceCtorEq, Nat.reduceEqDiff, Nat.reduceAdd, Nat.reduceMul, Nat.reduceLT, Nat.reduceBEq, Nat.reduceLeDiff, Nat.reduceSub] -- r15 parts.go:42
    exact LoopQ.next (i + 1) (by omega) (by omega) (Wk.gc [0, 1, 2, 3, 6] [] (of_decide_eq_true rfl) (of_decide_eq_true rfl) rfl rfl (of_decide_eq_true rfl) rfl rfl (fun _ h => by cases h) rfl (by simp -implicitDefEqProofs (disch := first | decide | exact of_eq_true (eq_true rfl) | omega | assumption) only [objOK, sgL, xiL, objAt, nilO, OM, mvL, mv, mvS, okS, okP, mvL_rows, okML, okM, okML_rows, List.getElem?_cons_zero, Option.getD_some, implies_true, imp_self, ne_eq, and_self, ↓vcD, vcE, ↓vcG, vcF, evs, evP, evB, intsOf, fillC, Value.cells, pt, Value.oneCell', reduceIte, reduceCtorEq, Nat.reduceEqDiff, Nat.reduceAdd, Nat.reduceMul, Nat.reduceLT, Nat.reduceBEq, Nat.reduceLeDiff, Nat.reduceSub]) (by simp -implicitDefEqProofs (disch := first | decide | exact of_eq_true (eq_true rfl) | omega | assumption) only [ valOK, sgL, xiL, mv, mvA, mvL, mvS, okS, okP, okM, okMA, okML, Option.getD_some, implies_true, and_self, Int.natCast_add, Int.cast_ofNat_Int, ↓vcD, vcE, ↓vcG, vcF, evs, evP, evB, intsOf, fillC, Value.cells, pt, Value.oneCell', reduceIte, reduceCtorEq, Nat.reduceEqDiff, Nat.reduceAdd, Nat.reduceMul, Nat.reduceLT, Nat.reduceBEq, Nat.reduceLeDiff, Nat.reduceSub]) (fun _ h => by cases h) ⟨rfl, fun _ h => by cases h⟩)
  refine ITri.exit ?_; try simp -implicitDefEqProofs (disch := first | decide | exact of_eq_true (eq_true rfl) | omega | assumption) only [ ↓vcD, vcE, ↓vcG, vcF, evs, evP, evB, intsOf, fillC, Value.cells, pt, Value.oneCell', reduceIte, reduceCtorEq, Nat.reduceEqDiff, Nat.reduceAdd, Nat.reduceMul, Nat.reduceLT, Nat.reduceBEq, Nat.reduceLeDiff, Nat.reduceSub]
  obtain rfl : N = i := by omega
  have hsl : (shF n l N).length = N := shF_len N
  have hN1 : ((N : Int) - 1) = ((N - 1 : Nat) : Int) := by omega
  have gv0 := getI (xs := shF n l N) (i := 0) (by omega)
  have gv1 := getI (xs := shF n l N) (i := N - 1) (by omega)
  have xe : ∀ j, xF n l j = nth (shF n l N) (j + 1) := fun j => by unfold xF; rw [hNN]
  have de : dvV 3 n l = .tuple #[.int .i64 (nth (shF n l N) 0), sO 3 (pickF 0 (xF n l) (N - 2)).length, sO 4 (pickF 1 (xF n l) (N - 2)).length, .int .i64 (nth (shF n l N) (N - 1)), .int .i64 0] := by
    unfold dvV; rw [hNN]
  have do' : dvO n l = [.cells ⟨rows eI (pickF 0 (xF n l) (N - 2)), 1, true⟩, .cells ⟨rows eI (pickF 1 (xF n l) (N - 2)), 1, true⟩] := by
    unfold dvO; rw [hNN]
  rw [de, do']
  clear de do'
  generalize shF n l N = sh at *
  generalize xF n l = x at *
  refine ITri.seq ?_
  refine ITri.draw pok ?_; simp -implicitDefEqProofs (disch := first | decide | exact of_eq_true (eq_true rfl) | omega | assumption) only [gv0, gv1, hN1, Int.toNat_zero,  ↓vcD, vcE, ↓vcG, vcF, evs, evP, evB, intsOf, fillC, Value.cells, pt, Value.oneCell', reduceIte, reduceCtorEq, Nat.reduceEqDiff, Nat.reduceAdd, Nat.reduceMul, Nat.reduceLT, Nat.reduceBEq, Nat.reduceLeDiff, Nat.reduceSub] -- r16 parts.go:48
  refine ITri.seq ?_
  refine ITri.seq ?_
  refine ITri.reg pok ?_; simp -implicitDefEqProofs (disch := first | decide | exact of_eq_true (eq_true rfl) | omega | assumption) only [hN1,  ↓vcD, vcE, ↓vcG, vcF, evs, evP, evB, intsOf, fillC, Value.cells, pt, Value.oneCell', reduceIte, reduceCtorEq, Nat.reduceEqDiff, Nat.reduceAdd, Nat.reduceMul, Nat.reduceLT, Nat.reduceBEq, Nat.reduceLeDiff, Nat.reduceSub] -- r17 parts.go:49
  have w0 : rows eI (pickF 0 x 0) = [] := rfl
  have w1 : rows eI (pickF 1 x 0) = [] := rfl
  have w2 : (pickF 0 x 0).length = 0 := rfl
  have w3 : (pickF 1 x 0).length = 0 := rfl
  by_cases hm : N = 2
  · refine gen_mid0c (i := 1) u_slI i_I rfl rfl rfl (by omega) (by omega) (by omega) ?_
    simp -implicitDefEqProofs (disch := first | decide | exact of_eq_true (eq_true rfl) | omega | assumption) only [Hq_bump,  ↓vcD, vcE, ↓vcG, vcF, evs, evP, evB, intsOf, fillC, Value.cells, pt, Value.oneCell', reduceIte, reduceCtorEq, Nat.reduceEqDiff, Nat.reduceAdd, Nat.reduceMul, Nat.reduceLT, Nat.reduceBEq, Nat.reduceLeDiff, Nat.reduceSub]
    have w4 : N - 2 = 0 := by omega
    rw [w4]
    refine ITri.block ?_
    refine ITri.loop (fun _ : Unit => [(4, .int .i64 (nth sh 0)), (5, sO 4 0), (6, sO 5 0), (7, .int .i64 (nth sh (N - 1))), (72, .int .i64 0), (73, .int .i64 0)]) (fun _ => []) (fun _ => Hp 3 (PM S K ++ [some (.cells ⟨rows eI sh, 1, true⟩), some (.cells ⟨[], 1, true⟩), some (.cells ⟨[], 1, true⟩)])) (fun _ => True) (fun _ => 0) () trivial (Wk.gc [0, 1, 2, 4, 6, 7] [(4, .nil), (5, .nil)] (of_decide_eq_true rfl) (of_decide_eq_true rfl) rfl rfl (of_decide_eq_true rfl) rfl rfl (by repeat (first | exact xiOK_nil | refine xiOK_cons (by first | trivial | exact roomOK _ (by decide)) ?_)) rfl (by simp -implicitDefEqProofs (disch := first | decide | exact of_eq_true (eq_true rfl) | omega | assumption) only [ objOK, sgL, xiL, objAt, nilO, OM, mvL, mv, mvS, okS, okP, mvL_rows, okML, okM, okML_rows, List.getElem?_cons_zero, Option.getD_some, implies_true, imp_self, ne_eq, and_self, true_or, or_true, Nat.zero_mul, Nat.sub_self, openB_self, ↓vcD, vcE, ↓vcG, vcF, evs, evP, evB, intsOf, fillC, Value.cells, pt, Value.oneCell', reduceIte, reduceCtorEq, Nat.reduceEqDiff, Nat.reduceAdd, Nat.reduceMul, Nat.reduceLT, Nat.reduceBEq, Nat.reduceLeDiff, Nat.reduceSub]) (by simp -implicitDefEqProofs (disch := first | decide | exact of_eq_true (eq_true rfl) | omega | assumption) only [ valOK, sgL, xiL, mv, mvA, mvL, mvS, okS, okP, okM, okMA, okML, Option.getD_some, implies_true, and_self, true_or, or_true, Int.natCast_add, Int.cast_ofNat_Int, Nat.zero_mul, Nat.sub_self, openB_self, ↓vcD, vcE, ↓vcG, vcF, evs, evP, evB, intsOf, fillC, Value.cells, pt, Value.oneCell', reduceIte, reduceCtorEq, Nat.reduceEqDiff, Nat.reduceAdd, Nat.reduceMul, Nat.reduceLT, Nat.reduceBEq, Nat.reduceLeDiff, Nat.reduceSub]) (fun _ h => by cases h) ⟨rfl, fun _ h => by cases h⟩) fun _ _ => ?_
    refine ITri.seq ?_
    refine ITri.reg pok ?_; simp -implicitDefEqProofs (disch := first | decide | exact of_eq_true (eq_true rfl) | omega | assumption) only [ ↓vcD, vcE, ↓vcG, vcF, evs, evP, evB, intsOf, fillC, Value.cells, pt, Value.oneCell', reduceIte, reduceCtorEq, Nat.reduceEqDiff, Nat.reduceAdd, Nat.reduceMul, Nat.reduceLT, Nat.reduceBEq, Nat.reduceLeDiff, Nat.reduceSub] -- r18
    refine ITri.seq ?_
    refine ITri.cond (v := false) rfl (fun h => by cases h) (fun _ => ?_)
    refine ITri.exit ?_; try simp -implicitDefEqProofs (disch := first | decide | exact of_eq_true (eq_true rfl) | omega | assumption) only [ ↓vcD, vcE, ↓vcG, vcF, evs, evP, evB, intsOf, fillC, Value.cells, pt, Value.oneCell', reduceIte, reduceCtorEq, Nat.reduceEqDiff, Nat.reduceAdd, Nat.reduceMul, Nat.reduceLT, Nat.reduceBEq, Nat.reduceLeDiff, Nat.reduceSub]
    refine ITri.seq ?_
    refine ITri.reg pok ?_; simp -implicitDefEqProofs (disch := first | decide | exact of_eq_true (eq_true rfl) | omega | assumption) only [ ↓vcD, vcE, ↓vcG, vcF, evs, evP, evB, intsOf, fillC, Value.cells, pt, Value.oneCell', reduceIte, reduceCtorEq, Nat.reduceEqDiff, Nat.reduceAdd, Nat.reduceMul, Nat.reduceLT, Nat.reduceBEq, Nat.reduceLeDiff, Nat.reduceSub] -- r24
    refine ITri.ret ?_
    exact end_own5 (k := 4) (k2 := 5) (by decide) (by decide) (by decide) rfl rfl rfl rfl rfl
  · refine gen_midc (i := 1) (m := N - 2) u_slI i_I sz_I rfl rfl rfl (by omega) (by omega) (.inl (by omega)) ?_
    simp -implicitDefEqProofs (disch := first | decide | exact of_eq_true (eq_true rfl) | omega | assumption) only [Nat.mul_one,  ↓vcD, vcE, ↓vcG, vcF, evs, evP, evB, intsOf, fillC, Value.cells, pt, Value.oneCell', reduceIte, reduceCtorEq, Nat.reduceEqDiff, Nat.reduceAdd, Nat.reduceMul, Nat.reduceLT, Nat.reduceBEq, Nat.reduceLeDiff, Nat.reduceSub]
    refine ITri.block ?_ -- 3
    refine ITri.loop (fun j : Nat => [(4, .int .i64 (nth sh 0)), (5, sO 4 (pickF 0 x j).length), (6, sO 5 (pickF 1 x j).length), (7, .int .i64 (nth sh (N - 1))), (71, .slice (some ⟨3, 1, none⟩) (N - 2) (openB + 1)), (72, .int .i64 (N - 2 : Nat)), (73, .int .i64 j)]) (fun _ => []) (fun j => Hp 3 (PM S K ++ [some (.cells ⟨rows eI sh, 1, true⟩), some (.cells ⟨rows eI (pickF 0 x j), 1, true⟩), some (.cells ⟨rows eI (pickF 1 x j), 1, true⟩)])) (fun j => j ≤ N - 2) (fun j => N - 2 - j) 0 (by omega) (Wk.gc [0, 1, 2, 4, 6, 7] [(4, .nil), (5, .nil)] (of_decide_eq_true rfl) (of_decide_eq_true rfl) rfl rfl (of_decide_eq_true rfl) rfl rfl (by repeat (first | exact xiOK_nil | refine xiOK_cons (by first | trivial | exact roomOK _ (by decide)) ?_)) rfl (by simp -implicitDefEqProofs (disch := first | decide | exact of_eq_true (eq_true rfl) | omega | assumption) only [w0, w1, w2, w3, objOK, sgL, xiL, objAt, nilO, OM, mvL, mv, mvS, okS, okP, mvL_rows, okML, okM, okML_rows, List.getElem?_cons_zero, Option.getD_some, implies_true, imp_self, ne_eq, and_self, true_or, or_true, Nat.zero_mul, Nat.sub_self, openB_self, ↓vcD, vcE, ↓vcG, vcF, evs, evP, evB, intsOf, fillC, Value.cells, pt, Value.oneCell', reduceIte, reduceCtorEq, Nat.reduceEqDiff, Nat.reduceAdd, Nat.reduceMul, Nat.reduceLT, Nat.reduceBEq, Nat.reduceLeDiff, Nat.reduceSub]) (by simp -implicitDefEqProofs (disch := first | decide | exact of_eq_true (eq_true rfl) | omega | assumption) only [w0, w1, w2, w3, valOK, sgL, xiL, mv, mvA, mvL, mvS, okS, okP, okM, okMA, okML, Option.getD_some, implies_true, and_self, true_or, or_true, Int.natCast_add, Int.cast_ofNat_Int, Nat.zero_mul, Nat.sub_self, openB_self, ↓vcD, vcE, ↓vcG, vcF, evs, evP, evB, intsOf, fillC, Value.cells, pt, Value.oneCell', reduceIte, reduceCtorEq, Nat.reduceEqDiff, Nat.reduceAdd, Nat.reduceMul, Nat.reduceLT, Nat.reduceBEq, Nat.reduceLeDiff, Nat.reduceSub]) (fun _ h => by cases h) ⟨rfl, fun _ h => by cases h⟩) fun j hj => ?_
    refine ITri.seq ?_
    refine ITri.reg pok ?_; simp -implicitDefEqProofs (disch := first | decide | exact of_eq_true (eq_true rfl) | omega | assumption) only [ ↓vcD, vcE, ↓vcG, vcF, evs, evP, evB, intsOf, fillC, Value.cells, pt, Value.oneCell', reduceIte, reduceCtorEq, Nat.reduceEqDiff, Nat.reduceAdd, Nat.reduceMul, Nat.reduceLT, Nat.reduceBEq, Nat.reduceLeDiff, Nat.reduceSub] -- r18 parts.go:49
    refine ITri.seq ?_
    refine ITri.condD (by rfl) (fun h6 => ?_) (fun h6 => ?_) -- %74
    · have p1 : (rows eI (pickF 0 x j)).length = (pickF 0 x j).length * 1 := by rw [rows_len]
      have p2 : (rows eI (pickF 1 x j)).length = (pickF 1 x j).length * 1 := by rw [rows_len]
      have p3 := pickF_len 0 x j
      have p4 := pickF_len 1 x j
      have hj1 : ((j : Int) + 1) = ((j + 1 : Nat) : Int) := by omega
      have gj := getI (xs := sh) (i := 1 + j) (by omega)
      have xj : nth sh (1 + j) = x j := by rw [xe, Nat.add_comm]
      rw [xj] at gj
      refine ITri.skip ?_; simp only [SeqQ_normal, BlkQ_normal]
      refine ITri.seq ?_
      refine ITri.block ?_ -- 4
      refine ITri.seq ?_
      refine ITri.reg pok ?_; simp -implicitDefEqProofs (disch := first | decide | exact of_eq_true (eq_true rfl) | omega | assumption) only [gj,  ↓vcD, vcE, ↓vcG, vcF, evs, evP, evB, intsOf, fillC, Value.cells, pt, Value.oneCell', reduceIte, reduceCtorEq, Nat.reduceEqDiff, Nat.reduceAdd, Nat.reduceMul, Nat.reduceLT, Nat.reduceBEq, Nat.reduceLeDiff, Nat.reduceSub] -- r19 parts.go:49
      refine ITri.seq ?_
      refine ITri.reg pok ?_; simp -implicitDefEqProofs (disch := first | decide | exact of_eq_true (eq_true rfl) | omega | assumption) only [ ↓vcD, vcE, ↓vcG, vcF, evs, evP, evB, intsOf, fillC, Value.cells, pt, Value.oneCell', reduceIte, reduceCtorEq, Nat.reduceEqDiff, Nat.reduceAdd, Nat.reduceMul, Nat.reduceLT, Nat.reduceBEq, Nat.reduceLeDiff, Nat.reduceSub] -- r20 parts.go:50
      refine ITri.condD (by rfl) (fun h7 => ?_) (fun h7 => ?_) -- %80
      · have k0 : j % 2 = 0 := by omega
        have k1 : rows eI (pickF 0 x j) ++ [Value.int .i64 (x j)] = rows eI (pickF 0 x (j + 1)) := by
          rw [pickF, if_pos k0, rows_append]
          rfl
        have k2 : (pickF 0 x j).length + 1 = (pickF 0 x (j + 1)).length := by rw [pickF, if_pos k0]; simp
        have k3 : pickF 1 x (j + 1) = pickF 1 x j := by rw [pickF, if_neg (by omega), List.append_nil]
        refine ITri.reg pok ?_; simp -implicitDefEqProofs (disch := first | decide | exact of_eq_true (eq_true rfl) | omega | assumption) only [p1,  ↓vcD, vcE, ↓vcG, vcF, evs, evP, evB, intsOf, fillC, Value.cells, pt, Value.oneCell', reduceIte, reduceCtorEq, Nat.reduceEqDiff, Nat.reduceAdd, Nat.reduceMul, Nat.reduceLT, Nat.reduceBEq, Nat.reduceLeDiff, Nat.reduceSub] -- r21 parts.go:51
        rw [k1, k2]
        rw [← k3] at *
        refine ITri.reg pok ?_; simp -implicitDefEqProofs (disch := first | decide | exact of_eq_true (eq_true rfl) | omega | assumption) only [hj1,  ↓vcD, vcE, ↓vcG, vcF, evs, evP, evB, intsOf, fillC, Value.cells, pt, Value.oneCell', reduceIte, reduceCtorEq, Nat.reduceEqDiff, Nat.reduceAdd, Nat.reduceMul, Nat.reduceLT, Nat.reduceBEq, Nat.reduceLeDiff, Nat.reduceSub] -- r23
        exact LoopQ.next (j + 1) (by omega) (by omega) (Wk.gc [0, 1, 2, 3, 7, 5] [] (of_decide_eq_true rfl) (of_decide_eq_true rfl) rfl rfl (of_decide_eq_true rfl) rfl rfl (fun _ h => by cases h) rfl (by simp -implicitDefEqProofs (disch := first | decide | exact of_eq_true (eq_true rfl) | omega | assumption) only [objOK, sgL, xiL, objAt, nilO, OM, mvL, mv, mvS, okS, okP, mvL_rows, okML, okM, okML_rows, List.getElem?_cons_zero, Option.getD_some, implies_true, imp_self, ne_eq, and_self, ↓vcD, vcE, ↓vcG, vcF, evs, evP, evB, intsOf, fillC, Value.cells, pt, Value.oneCell', reduceIte, reduceCtorEq, Nat.reduceEqDiff, Nat.reduceAdd, Nat.reduceMul, Nat.reduceLT, Nat.reduceBEq, Nat.reduceLeDiff, Nat.reduceSub]) (by simp -implicitDefEqProofs (disch := first | decide | exact of_eq_true (eq_true rfl) | omega | assumption) only [ valOK, sgL, xiL, mv, mvA, mvL, mvS, okS, okP, okM, okMA, okML, Option.getD_some, implies_true, and_self, Int.natCast_add, Int.cast_ofNat_Int, ↓vcD, vcE, ↓vcG, vcF, evs, evP, evB, intsOf, fillC, Value.cells, pt, Value.oneCell', reduceIte, reduceCtorEq, Nat.reduceEqDiff, Nat.reduceAdd, Nat.reduceMul, Nat.reduceLT, Nat.reduceBEq, Nat.reduceLeDiff, Nat.reduceSub]) (fun _ h => by cases h) ⟨rfl, fun _ h => by cases h⟩)
      have k0 : j % 2 = 1 := by omega
      have k1 : rows eI (pickF 1 x j) ++ [Value.int .i64 (x j)] = rows eI (pickF 1 x (j + 1)) := by
        rw [pickF, if_pos k0, rows_append]
        rfl
      have k2 : (pickF 1 x j).length + 1 = (pickF 1 x (j + 1)).length := by rw [pickF, if_pos k0]; simp
      have k3 : pickF 0 x (j + 1) = pickF 0 x j := by rw [pickF, if_neg (by omega), List.append_nil]
      refine ITri.reg pok ?_; simp -implicitDefEqProofs (disch := first | decide | exact of_eq_true (eq_true rfl) | omega | assumption) only [p2,  ↓vcD, vcE, ↓vcG, vcF, evs, evP, evB, intsOf, fillC, Value.cells, pt, Value.oneCell', reduceIte, reduceCtorEq, Nat.reduceEqDiff, Nat.reduceAdd, Nat.reduceMul, Nat.reduceLT, Nat.reduceBEq, Nat.reduceLeDiff, Nat.reduceSub] -- r22
      rw [k1, k2]
      rw [← k3] at *
      refine ITri.reg pok ?_; simp -implicitDefEqProofs (disch := first | decide | exact of_eq_true (eq_true rfl) | omega | assumption) only [hj1,  ↓vcD, vcE, ↓vcG, vcF, evs, evP, evB, intsOf, fillC, Value.cells, pt, Value.oneCell', reduceIte, reduceCtorEq, Nat.reduceEqDiff, Nat.reduceAdd, Nat.reduceMul, Nat.reduceLT, Nat.reduceBEq, Nat.reduceLeDiff, Nat.reduceSub] -- r23
      exact LoopQ.next (j + 1) (by omega) (by omega) (Wk.gc [0, 1, 2, 3, 4, 7] [] (of_decide_eq_true rfl) (of_decide_eq_true rfl) rfl rfl (of_decide_eq_true rfl) rfl rfl (fun _ h => by cases h) rfl (by simp -implicitDefEqProofs (disch := first | decide | exact of_eq_true (eq_true rfl) | omega | assumption) only [objOK, sgL, xiL, objAt, nilO, OM, mvL, mv, mvS, okS, okP, mvL_rows, okML, okM, okML_rows, List.getElem?_cons_zero, Option.getD_some, implies_true, imp_self, ne_eq, and_self, ↓vcD, vcE, ↓vcG, vcF, evs, evP, evB, intsOf, fillC, Value.cells, pt, Value.oneCell', reduceIte, reduceCtorEq, Nat.reduceEqDiff, Nat.reduceAdd, Nat.reduceMul, Nat.reduceLT, Nat.reduceBEq, Nat.reduceLeDiff, Nat.reduceSub]) (by simp -implicitDefEqProofs (disch := first | decide | exact of_eq_true (eq_true rfl) | omega | assumption) only [ valOK, sgL, xiL, mv, mvA, mvL, mvS, okS, okP, okM, okMA, okML, Option.getD_some, implies_true, and_self, Int.natCast_add, Int.cast_ofNat_Int, ↓vcD, vcE, ↓vcG, vcF, evs, evP, evB, intsOf, fillC, Value.cells, pt, Value.oneCell', reduceIte, reduceCtorEq, Nat.reduceEqDiff, Nat.reduceAdd, Nat.reduceMul, Nat.reduceLT, Nat.reduceBEq, Nat.reduceLeDiff, Nat.reduceSub]) (fun _ h => by cases h) ⟨rfl, fun _ h => by cases h⟩)
    refine ITri.exit ?_; try simp -implicitDefEqProofs (disch := first | decide | exact of_eq_true (eq_true rfl) | omega | assumption) only [ ↓vcD, vcE, ↓vcG, vcF, evs, evP, evB, intsOf, fillC, Value.cells, pt, Value.oneCell', reduceIte, reduceCtorEq, Nat.reduceEqDiff, Nat.reduceAdd, Nat.reduceMul, Nat.reduceLT, Nat.reduceBEq, Nat.reduceLeDiff, Nat.reduceSub]
    have hjm : j = N - 2 := by omega
    rw [hjm]
    refine ITri.seq ?_
    refine ITri.reg pok ?_; simp -implicitDefEqProofs (disch := first | decide | exact of_eq_true (eq_true rfl) | omega | assumption) only [ ↓vcD, vcE, ↓vcG, vcF, evs, evP, evB, intsOf, fillC, Value.cells, pt, Value.oneCell', reduceIte, reduceCtorEq, Nat.reduceEqDiff, Nat.reduceAdd, Nat.reduceMul, Nat.reduceLT, Nat.reduceBEq, Nat.reduceLeDiff, Nat.reduceSub] -- r24
    refine ITri.ret ?_
    exact end_own5 (k := 4) (k2 := 5) (by decide) (by decide) (by decide) (rows_no (f := eI) _) (rows_no (f := eI) _) rfl rfl rfl
end Go.Proofs.Ytlhhkmkclmedgaa
