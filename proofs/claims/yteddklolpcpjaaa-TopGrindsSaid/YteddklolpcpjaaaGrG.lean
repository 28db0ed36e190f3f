/-
  Chapter 4 at the top: newChart.
-/
import Derived.Test.YteddklolpcpjaaaGrF
import Derived.Test.YteddklolpcpjaaaGrG0
set_option linter.unusedSimpArgs false
set_option linter.unusedVariables false
namespace Go.Proofs.Yteddklolpcpjaaa
open Go.RowKit Go.Vm
set_option maxRecDepth 1000000
/-- A chart's cells: the puller, and two slices. -/
def chC (ps : List Int) (u v : Value) : List Value := rows eI ps ++ [u, v]
theorem chC_len {ps : List Int} (hl : ps.length = 117) (u v : Value) : (chC ps u v).length = 119 := by unfold chC; rw [List.length_append, rows_len (f := eI), hl]; rfl
theorem chC_p {ps : List Int} (hl : ps.length = 117) (u v : Value) {i : Nat} (hi : i < 117) : (chC ps u v)[i]? = some (I6 (nth ps i)) := by unfold chC; rw [List.getElem?_append_left (by rw [rows_len (f := eI)]; omega)]; exact getI (by omega)
theorem chC_u {ps : List Int} (hl : ps.length = 117) (u v : Value) : (chC ps u v)[117]? = some u := by unfold chC; rw [List.getElem?_append_right (by rw [rows_len (f := eI)]; omega), rows_len (f := eI), hl]; rfl
theorem chC_v {ps : List Int} (hl : ps.length = 117) (u v : Value) : (chC ps u v)[118]? = some v := by unfold chC; rw [List.getElem?_append_right (by rw [rows_len (f := eI)]; omega), rows_len (f := eI), hl]; rfl
theorem chC_all {ps : List Int} (u v : Value) (hu : Value.oneCell' u = true) (hv : Value.oneCell' v = true) : (chC ps u v).all Value.oneCell' = true := by unfold chC; rw [List.all_append, rows_one' (f := eI)]; simp [hu, hv]
theorem chC_mv {ps : List Int} (u v : Value) (σ : Nat → Nat) (ξ : Nat → Xi) : mvL σ ξ (chC ps u v) = chC ps (mv σ ξ u) (mv σ ξ v) := by
  unfold chC
  have : ∀ a b : List Value, mvL σ ξ (a ++ b) = mvL σ ξ a ++ mvL σ ξ b := fun a b => by
    induction a with
    | nil => rfl
    | cons x r ih => simp [mvL, ih]
  rw [this, mvL_rows]; rfl
theorem chC_ok {ps : List Int} (u v : Value) (ξ : Nat → Xi) (B : Nat) : okML ξ B (chC ps u v) = (okM ξ B u ∧ okM ξ B v) := by
  unfold chC
  apply propext
  rw [okML_app]
  exact ⟨fun h => ⟨h.2.1, h.2.2.1⟩, fun h => ⟨okML_rows ξ B, h.1, h.2, trivial⟩⟩
abbrev z119 : List Value := List.replicate 117 (I6 0) ++ [.slice none 0 0, .slice none 0 0]
theorem ch_w1 {ps : List Int} (hl : ps.length = 117) : writeAt [I6 0, I6 0, I6 0, I6 0, I6 0, I6 0, I6 0, I6 0, I6 0, I6 0, I6 0, I6 0, I6 0, I6 0, I6 0, I6 0, I6 0, I6 0, I6 0, I6 0, I6 0, I6 0, I6 0, I6 0, I6 0, I6 0, I6 0, I6 0, I6 0, I6 0, I6 0, I6 0, I6 0, I6 0, I6 0, I6 0, I6 0, I6 0, I6 0, I6 0, I6 0, I6 0, I6 0, I6 0, I6 0, I6 0, I6 0, I6 0, I6 0, I6 0, I6 0, I6 0, I6 0, I6 0, I6 0, I6 0, I6 0, I6 0, I6 0, I6 0, I6 0, I6 0, I6 0, I6 0, I6 0, I6 0, I6 0, I6 0, I6 0, I6 0, I6 0, I6 0, I6 0, I6 0, I6 0, I6 0, I6 0, I6 0, I6 0, I6 0, I6 0, I6 0, I6 0, I6 0, I6 0, I6 0, I6 0, I6 0, I6 0, I6 0, I6 0, I6 0, I6 0, I6 0, I6 0, I6 0, I6 0, I6 0, I6 0, I6 0, I6 0, I6 0, I6 0, I6 0, I6 0, I6 0, I6 0, I6 0, I6 0, I6 0, I6 0, I6 0, I6 0, I6 0, I6 0, I6 0, I6 0, .slice none 0 0, .slice none 0 0] 0 (rows eI ps) = chC ps (.slice none 0 0) (.slice none 0 0) := by
  show writeAt z119 0 (rows eI ps) = _
  unfold writeAt chC
  rw [rows_len (f := eI), hl]
  simp
theorem ch_w2 {ps : List Int} (hl : ps.length = 117) (u v x : Value) : writeAt (chC ps u v) 117 [x] = chC ps x v := by
  rw [writeAt_1 _ _ _ (by rw [chC_len hl]; omega)]
  unfold chC
  rw [List.set_append_right _ _ (by rw [rows_len (f := eI)]; omega), rows_len (f := eI), hl]
  rfl
theorem ch_w3 {ps : List Int} (hl : ps.length = 117) (u v x : Value) : writeAt (chC ps u v) 118 [x] = chC ps u x := by
  rw [writeAt_1 _ _ _ (by rw [chC_len hl]; omega)]
  unfold chC
  rw [List.set_append_right _ _ (by rw [rows_len (f := eI)]; omega), rows_len (f := eI), hl]
  rfl
theorem rep_K (N : Nat) : (List.replicate N [I6 0, I6 0, .bool false]).flatten = rows eK (List.replicate N noK) := by
  induction N with
  | zero => rfl
  | succ n ih => rw [List.replicate_succ, List.replicate_succ, List.flatten_cons, ih]; rfl
theorem wrK {B : List Kn} {k : Nat} (x : Kn) (h : k < B.length) : writeAt (rows eK B) (k * 3) [I6 x.l, I6 x.h, .bool x.s] = rows eK (B.set k x) := rows_write (f := eK) x h
abbrev slN (k n : Nat) : Value := .slice (some ⟨k, 0, none⟩) n n
/- boule/pull.newChart · slots 148 · names 0:p 1:r 2:p 3:r 6:first 7:_ 8:e 9:seen 10:_ 11:s 12:c 13:t 14:t · results [4, 5] -/
def ir20_r0 : IC := .reg [⟨some 2, none, false, .box (.t 0)⟩,
  ⟨some 3, none, false, .box (.t 1)⟩,
  ⟨some 4, none, false, .mv (.k (.pointer none))⟩,
  ⟨some 5, none, false, .mv (.k (.int .i64 0))⟩] (some [2, 3])
def ir20_r1 : IC := .reg [⟨some 16, none, false, .lda 117 (.t 2)⟩,
  ⟨some 17, none, false, .lda 4 (.t 3)⟩,
  ⟨some 18, none, false, .call (.f 45) [(.t 16), (.t 17)]⟩,
  ⟨some 15, none, false, .mv (.t 18)⟩,
  ⟨some 19, none, false, .ext (.t 15) 0⟩,
  ⟨some 20, none, false, .ext (.t 15) 1⟩,
  ⟨some 21, none, false, .ext (.t 15) 2⟩,
  ⟨some 6, none, false, .mv (.t 19)⟩,
  ⟨some 7, none, false, .mv (.t 20)⟩,
  ⟨some 8, none, false, .mv (.t 21)⟩] (some [2, 3, 6, 8])
def ir20_r2 : IC := .reg [⟨some 22, none, false, .mv (.t 8)⟩,
  ⟨some 23, none, false, .cmp .neq (.t 22) (.k (.int .i64 0))⟩] (some [2, 3, 6, 8, 23])
def ir20_r3 : IC := .reg [⟨some 24, none, false, .mv (.t 8)⟩,
  ⟨some 4, none, false, .mv (.k (.pointer none))⟩,
  ⟨some 5, none, false, .mv (.t 24)⟩] (some [4, 5])
def ir20_1 : IC := .seq ir20_r3 .ret
def ir20_r4 : IC := .reg [⟨some 25, none, false, .mv (.t 6)⟩,
  ⟨some 26, none, false, .cmp .geq (.t 25) (.k (.int .i64 0))⟩] (some [2, 3, 26])
def ir20_r5 : IC := .reg [⟨some 4, none, false, .mv (.k (.pointer none))⟩,
  ⟨some 5, none, false, .mv (.k (.int .i64 40))⟩] (some [4, 5])
def ir20_2 : IC := .seq ir20_r5 .ret
def ir20_3 : IC := .cond (.t 26) ir20_2 .skip
def ir20_4 : IC := .seq ir20_r4 ir20_3
def ir20_5 : IC := .cond (.t 23) ir20_1 ir20_4
def ir20_6 : IC := .seq ir20_r2 ir20_5
def ir20_7 : IC := .seq ir20_r1 ir20_6
def ir20_r6 : IC := .reg [⟨some 27, none, false, .fad 1 (.t 3)⟩,
  ⟨some 28, none, false, .ldc (.t 27)⟩,
  ⟨some 29, none, false, .ar .add (.t 28) (.k (.int .i64 1))⟩,
  ⟨some 30, none, false, .mks 3 [(.int .i64 0), (.int .i64 0), (.bool false)] (.t 29) (.t 29)⟩,
  ⟨some 9, none, false, .mv (.t 30)⟩] (some [2, 3, 9])
def ir20_r7 : IC := .reg [⟨some 31, none, false, .fad 2 (.t 3)⟩,
  ⟨some 32, none, false, .ldc (.t 31)⟩,
  ⟨some 33, none, false, .len (.t 32)⟩,
  ⟨some 34, none, false, .mv (.k (.int .i64 0))⟩] (some [2, 3, 9, 32, 33, 34])
def ir20_r8 : IC := .reg [⟨some 35, none, false, .cmp .lss (.t 34) (.t 33)⟩] (some [2, 3, 9, 32, 33, 34, 35])
def ir20_8 : IC := .cond (.t 35) .skip (.exit 0)
def ir20_r9 : IC := .reg [⟨some 36, none, false, .iad 3 (.t 32) (.t 34)⟩,
  ⟨some 37, none, false, .lda 3 (.t 36)⟩,
  ⟨some 11, none, false, .alloc [(.int .i64 0), (.int .i64 0), (.int .i64 0)]⟩,
  ⟨none, none, false, .st 3 (.t 11) (.t 37)⟩] (some [2, 3, 9, 11, 32, 33, 34])
def ir20_r10 : IC := .reg [⟨some 38, none, false, .mv (.t 9)⟩,
  ⟨some 39, none, false, .fad 0 (.t 11)⟩,
  ⟨some 40, none, false, .ldc (.t 39)⟩,
  ⟨some 41, none, false, .fad 1 (.t 11)⟩,
  ⟨some 42, none, false, .fad 0 (.t 41)⟩,
  ⟨some 43, none, false, .ldc (.t 42)⟩,
  ⟨some 44, none, false, .fad 1 (.t 11)⟩,
  ⟨some 45, none, false, .fad 1 (.t 44)⟩,
  ⟨some 46, none, false, .ldc (.t 45)⟩,
  ⟨some 47, none, false, .bld [(.int .i64 0), (.int .i64 0), (.bool false)] [(0, 1, (.t 43)), (1, 1, (.t 46)), (2, 1, (.k (.bool true)))]⟩,
  ⟨some 48, none, false, .iad 3 (.t 38) (.t 40)⟩,
  ⟨none, none, false, .st 3 (.t 48) (.t 47)⟩] (some [2, 3, 9, 32, 33, 34])
def ir20_9 : IC := .seq ir20_r9 ir20_r10
def ir20_10 : IC := .block 1 ir20_9
def ir20_r11 : IC := .reg [⟨some 49, none, false, .ar .add (.t 34) (.k (.int .i64 1))⟩,
  ⟨some 34, none, false, .mv (.t 49)⟩] (some [2, 3, 9, 32, 33, 34])
def ir20_11 : IC := .seq ir20_10 ir20_r11
def ir20_12 : IC := .seq ir20_8 ir20_11
def ir20_13 : IC := .seq ir20_r8 ir20_12
def ir20_14 : IC := .loop ir20_13
def ir20_15 : IC := .block 0 ir20_14
def ir20_16 : IC := .seq ir20_r7 ir20_15
def ir20_r12 : IC := .draw [(⟨some 50, none, false, .lda 117 (.t 2)⟩, false, 0, 1),
  (⟨some 51, none, false, .fad 1 (.t 3)⟩, false, 0, 0),
  (⟨some 52, none, false, .ldc (.t 51)⟩, false, 2, 1),
  (⟨some 53, none, false, .ar .add (.t 52) (.k (.int .i64 1))⟩, false, 6, 0),
  (⟨some 54, none, false, .mks 3 [(.int .i64 0), (.int .i64 0), (.bool false)] (.t 53) (.t 53)⟩, false, 14, 1),
  (⟨some 55, none, false, .fad 1 (.t 3)⟩, false, 0, 0),
  (⟨some 56, none, false, .ldc (.t 55)⟩, false, 32, 15),
  (⟨some 57, none, false, .ar .add (.t 56) (.k (.int .i64 1))⟩, false, 96, 0),
  (⟨some 58, none, false, .mks 3 [(.int .i64 0), (.int .i64 0), (.bool false)] (.t 57) (.t 57)⟩, false, 224, 15),
  (⟨some 59, none, false, .bld [(.int .i64 0), (.int .i64 0), (.int .i64 0), (.int .i64 0), (.int .i64 0), (.int .i64 0), (.int .i64 0), (.int .i64 0), (.int .i64 0), (.int .i64 0), (.int .i64 0), (.int .i64 0), (.int .i64 0), (.int .i64 0), (.int .i64 0), (.int .i64 0), (.int .i64 0), (.int .i64 0), (.int .i64 0), (.int .i64 0), (.int .i64 0), (.int .i64 0), (.int .i64 0), (.int .i64 0), (.int .i64 0), (.int .i64 0), (.int .i64 0), (.int .i64 0), (.int .i64 0), (.int .i64 0), (.int .i64 0), (.int .i64 0), (.int .i64 0), (.int .i64 0), (.int .i64 0), (.int .i64 0), (.int .i64 0), (.int .i64 0), (.int .i64 0), (.int .i64 0), (.int .i64 0), (.int .i64 0), (.int .i64 0), (.int .i64 0), (.int .i64 0), (.int .i64 0), (.int .i64 0), (.int .i64 0), (.int .i64 0), (.int .i64 0), (.int .i64 0), (.int .i64 0), (.int .i64 0), (.int .i64 0), (.int .i64 0), (.int .i64 0), (.int .i64 0), (.int .i64 0), (.int .i64 0), (.int .i64 0), (.int .i64 0), (.int .i64 0), (.int .i64 0), (.int .i64 0), (.int .i64 0), (.int .i64 0), (.int .i64 0), (.int .i64 0), (.int .i64 0), (.int .i64 0), (.int .i64 0), (.int .i64 0), (.int .i64 0), (.int .i64 0), (.int .i64 0), (.int .i64 0), (.int .i64 0), (.int .i64 0), (.int .i64 0), (.int .i64 0), (.int .i64 0), (.int .i64 0), (.int .i64 0), (.int .i64 0), (.int .i64 0), (.int .i64 0), (.int .i64 0), (.int .i64 0), (.int .i64 0), (.int .i64 0), (.int .i64 0), (.int .i64 0), (.int .i64 0), (.int .i64 0), (.int .i64 0), (.int .i64 0), (.int .i64 0), (.int .i64 0), (.int .i64 0), (.int .i64 0), (.int .i64 0), (.int .i64 0), (.int .i64 0), (.int .i64 0), (.int .i64 0), (.int .i64 0), (.int .i64 0), (.int .i64 0), (.int .i64 0), (.int .i64 0), (.int .i64 0), (.int .i64 0), (.int .i64 0), (.int .i64 0), (.int .i64 0), (.int .i64 0), (.int .i64 0), (.slice none 0 0), (.slice none 0 0)] [(0, 117, (.t 50)), (117, 1, (.t 54)), (118, 1, (.t 58))]⟩, false, 511, 0),
  (⟨some 60, none, false, .box (.t 59)⟩, true, 1023, 0),
  (⟨some 12, none, false, .mv (.t 60)⟩, false, 2047, 0)] (some [2, 3, 9, 12])
def ir20_r13 : IC := .reg [⟨some 61, none, false, .mv (.t 9)⟩,
  ⟨some 62, none, false, .len (.t 61)⟩,
  ⟨some 63, none, false, .mv (.k (.int .i64 0))⟩] (some [2, 3, 9, 12, 62, 63])
def ir20_r14 : IC := .reg [⟨some 64, none, false, .cmp .lss (.t 63) (.t 62)⟩] (some [2, 3, 9, 12, 62, 63, 64])
def ir20_17 : IC := .cond (.t 64) .skip (.exit 2)
def ir20_r15 : IC := .reg [⟨some 65, none, false, .mv (.t 63)⟩,
  ⟨some 13, none, false, .mv (.t 65)⟩] (some [2, 3, 9, 12, 13, 62, 63])
def ir20_r16 : IC := .draw [(⟨some 66, none, false, .mv (.t 12)⟩, false, 0, 0),
  (⟨some 67, none, false, .nilck (.t 66)⟩, false, 1, 0),
  (⟨some 68, none, false, .fad 117 (.t 67)⟩, false, 3, 0),
  (⟨some 69, none, false, .ldc (.t 68)⟩, false, 7, 1),
  (⟨some 70, none, false, .mv (.t 13)⟩, false, 0, 0),
  (⟨some 71, none, false, .mv (.t 9)⟩, false, 0, 0),
  (⟨some 72, none, false, .mv (.t 13)⟩, false, 0, 0),
  (⟨some 73, none, false, .iad 3 (.t 71) (.t 72)⟩, false, 96, 0),
  (⟨some 74, none, false, .lda 3 (.t 73)⟩, false, 224, 8),
  (⟨some 75, none, false, .iad 3 (.t 69) (.t 70)⟩, false, 511, 0),
  (⟨none, none, false, .st 3 (.t 75) (.t 74)⟩, true, 1023, 0)] (some [2, 3, 9, 12, 13, 62, 63])
def ir20_r17 : IC := .reg [⟨some 76, none, false, .mv (.t 13)⟩,
  ⟨some 77, none, false, .cmp .gtr (.t 76) (.k (.int .i64 0))⟩] (some [2, 3, 9, 12, 13, 62, 63, 77])
def ir20_r18 : IC := .draw [(⟨some 78, none, false, .mv (.t 12)⟩, false, 0, 0),
  (⟨some 79, none, false, .nilck (.t 78)⟩, false, 1, 0),
  (⟨some 80, none, false, .fad 117 (.t 79)⟩, false, 3, 0),
  (⟨some 81, none, false, .ldc (.t 80)⟩, false, 7, 1),
  (⟨some 82, none, false, .mv (.t 13)⟩, false, 0, 0),
  (⟨some 83, none, false, .mv (.t 9)⟩, false, 0, 0),
  (⟨some 84, none, false, .mv (.t 13)⟩, false, 0, 0),
  (⟨some 85, none, false, .iad 3 (.t 83) (.t 84)⟩, false, 96, 0),
  (⟨some 86, none, false, .lda 3 (.t 85)⟩, false, 224, 8),
  (⟨some 87, none, false, .mv (.t 12)⟩, false, 0, 0),
  (⟨some 88, none, false, .nilck (.t 87)⟩, false, 512, 0),
  (⟨some 89, none, false, .fad 117 (.t 88)⟩, false, 1536, 0),
  (⟨some 90, none, false, .ldc (.t 89)⟩, false, 3584, 232),
  (⟨some 91, none, false, .mv (.t 13)⟩, false, 0, 0),
  (⟨some 92, none, false, .ar .sub (.t 91) (.k (.int .i64 1))⟩, false, 8192, 0),
  (⟨some 93, none, false, .iad 3 (.t 90) (.t 92)⟩, false, 32256, 0),
  (⟨some 94, none, false, .lda 3 (.t 93)⟩, false, 65024, 232),
  (⟨some 95, none, false, .fad 110 (.t 2)⟩, false, 0, 0),
  (⟨some 96, none, false, .ldc (.t 95)⟩, false, 131072, 65256),
  (⟨some 97, none, false, .fad 111 (.t 2)⟩, false, 0, 0),
  (⟨some 98, none, false, .ldc (.t 97)⟩, false, 524288, 196328),
  (⟨some 99, none, false, .call (.f 47) [(.t 94), (.t 96), (.t 98)]⟩, false, 2096640, 232),
  (⟨some 100, none, false, .call (.f 46) [(.t 86), (.t 99)]⟩, false, 4194272, 8),
  (⟨some 101, none, false, .iad 3 (.t 81) (.t 82)⟩, false, 8388607, 0),
  (⟨none, none, false, .st 3 (.t 101) (.t 100)⟩, true, 16777215, 0)] (some [2, 3, 9, 12, 62, 63])
def ir20_18 : IC := .cond (.t 77) ir20_r18 .skip
def ir20_19 : IC := .seq ir20_r17 ir20_18
def ir20_20 : IC := .seq ir20_r16 ir20_19
def ir20_21 : IC := .seq ir20_r15 ir20_20
def ir20_22 : IC := .block 3 ir20_21
def ir20_r19 : IC := .reg [⟨some 102, none, false, .ar .add (.t 63) (.k (.int .i64 1))⟩,
  ⟨some 63, none, false, .mv (.t 102)⟩] (some [2, 3, 9, 12, 62, 63])
def ir20_23 : IC := .seq ir20_22 ir20_r19
def ir20_24 : IC := .seq ir20_17 ir20_23
def ir20_25 : IC := .seq ir20_r14 ir20_24
def ir20_26 : IC := .loop ir20_25
def ir20_27 : IC := .block 2 ir20_26
def ir20_28 : IC := .seq ir20_r13 ir20_27
def ir20_r20 : IC := .reg [⟨some 103, none, false, .fad 1 (.t 3)⟩,
  ⟨some 104, none, false, .ldc (.t 103)⟩,
  ⟨some 14, none, false, .mv (.t 104)⟩] (some [2, 3, 9, 12, 14])
def ir20_r21 : IC := .reg [⟨some 105, none, false, .mv (.t 14)⟩,
  ⟨some 106, none, false, .cmp .geq (.t 105) (.k (.int .i64 0))⟩] (some [2, 3, 9, 12, 14, 106])
def ir20_29 : IC := .cond (.t 106) .skip (.exit 4)
def ir20_30 : IC := .seq ir20_r21 ir20_29
def ir20_r23 : IC := .draw [(⟨some 109, none, false, .mv (.t 12)⟩, false, 0, 0),
  (⟨some 110, none, false, .nilck (.t 109)⟩, false, 1, 0),
  (⟨some 111, none, false, .fad 118 (.t 110)⟩, false, 3, 0),
  (⟨some 112, none, false, .ldc (.t 111)⟩, false, 7, 1),
  (⟨some 113, none, false, .mv (.t 14)⟩, false, 0, 0),
  (⟨some 114, none, false, .mv (.t 9)⟩, false, 0, 0),
  (⟨some 115, none, false, .mv (.t 14)⟩, false, 0, 0),
  (⟨some 116, none, false, .iad 3 (.t 114) (.t 115)⟩, false, 96, 0),
  (⟨some 117, none, false, .lda 3 (.t 116)⟩, false, 224, 8),
  (⟨some 118, none, false, .iad 3 (.t 112) (.t 113)⟩, false, 511, 0),
  (⟨none, none, false, .st 3 (.t 118) (.t 117)⟩, true, 1023, 0)] (some [2, 3, 9, 12, 14])
def ir20_r24 : IC := .reg [⟨some 119, none, false, .mv (.t 14)⟩,
  ⟨some 120, none, false, .fad 1 (.t 3)⟩,
  ⟨some 121, none, false, .ldc (.t 120)⟩,
  ⟨some 122, none, false, .cmp .lss (.t 119) (.t 121)⟩] (some [2, 3, 9, 12, 14, 122])
def ir20_r25 : IC := .draw [(⟨some 123, none, false, .mv (.t 12)⟩, false, 0, 0),
  (⟨some 124, none, false, .nilck (.t 123)⟩, false, 1, 0),
  (⟨some 125, none, false, .fad 118 (.t 124)⟩, false, 3, 0),
  (⟨some 126, none, false, .ldc (.t 125)⟩, false, 7, 1),
  (⟨some 127, none, false, .mv (.t 14)⟩, false, 0, 0),
  (⟨some 128, none, false, .mv (.t 9)⟩, false, 0, 0),
  (⟨some 129, none, false, .mv (.t 14)⟩, false, 0, 0),
  (⟨some 130, none, false, .iad 3 (.t 128) (.t 129)⟩, false, 96, 0),
  (⟨some 131, none, false, .lda 3 (.t 130)⟩, false, 224, 8),
  (⟨some 132, none, false, .mv (.t 12)⟩, false, 0, 0),
  (⟨some 133, none, false, .nilck (.t 132)⟩, false, 512, 0),
  (⟨some 134, none, false, .fad 118 (.t 133)⟩, false, 1536, 0),
  (⟨some 135, none, false, .ldc (.t 134)⟩, false, 3584, 232),
  (⟨some 136, none, false, .mv (.t 14)⟩, false, 0, 0),
  (⟨some 137, none, false, .ar .add (.t 136) (.k (.int .i64 1))⟩, false, 8192, 0),
  (⟨some 138, none, false, .iad 3 (.t 135) (.t 137)⟩, false, 32256, 0),
  (⟨some 139, none, false, .lda 3 (.t 138)⟩, false, 65024, 232),
  (⟨some 140, none, false, .fad 111 (.t 2)⟩, false, 0, 0),
  (⟨some 141, none, false, .ldc (.t 140)⟩, false, 131072, 65256),
  (⟨some 142, none, false, .fad 110 (.t 2)⟩, false, 0, 0),
  (⟨some 143, none, false, .ldc (.t 142)⟩, false, 524288, 196328),
  (⟨some 144, none, false, .call (.f 47) [(.t 139), (.t 141), (.t 143)]⟩, false, 2096640, 232),
  (⟨some 145, none, false, .call (.f 46) [(.t 131), (.t 144)]⟩, false, 4194272, 8),
  (⟨some 146, none, false, .iad 3 (.t 126) (.t 127)⟩, false, 8388607, 0),
  (⟨none, none, false, .st 3 (.t 146) (.t 145)⟩, true, 16777215, 0)] (some [2, 3, 9, 12, 14])
def ir20_31 : IC := .cond (.t 122) ir20_r25 .skip
def ir20_32 : IC := .seq ir20_r24 ir20_31
def ir20_33 : IC := .seq ir20_r23 ir20_32
def ir20_34 : IC := .block 5 ir20_33
def ir20_r22 : IC := .reg [⟨some 107, none, false, .mv (.t 14)⟩,
  ⟨some 108, none, false, .ar .sub (.t 107) (.k (.int .i64 1))⟩,
  ⟨some 14, none, false, .mv (.t 108)⟩] (some [2, 3, 9, 12, 14])
def ir20_35 : IC := .seq ir20_34 ir20_r22
def ir20_36 : IC := .seq ir20_30 ir20_35
def ir20_37 : IC := .loop ir20_36
def ir20_38 : IC := .block 4 ir20_37
def ir20_39 : IC := .seq ir20_r20 ir20_38
def ir20_r26 : IC := .reg [⟨some 147, none, false, .mv (.t 12)⟩,
  ⟨some 4, none, false, .mv (.t 147)⟩,
  ⟨some 5, none, false, .mv (.k (.int .i64 0))⟩] (some [4, 5])
def ir20_40 : IC := .seq ir20_r26 .ret
def ir20_41 : IC := .seq ir20_39 ir20_40
def ir20_42 : IC := .seq ir20_28 ir20_41
def ir20_43 : IC := .seq ir20_r12 ir20_42
def ir20_44 : IC := .seq ir20_16 ir20_43
def ir20_45 : IC := .seq ir20_r6 ir20_44
def ir20_46 : IC := .seq ir20_7 ir20_45
def ir20_47 : IC := .seq ir20_r0 ir20_46
def ir20 : IC := ir20_47
theorem fn20 : FnIs Try.prog 20 ir20 148 [.tmp 4, .tmp 5] := ⟨Try.f20, Try.f20.body.getD .skip, Try.func20, by kernel_rfl, by kernel_rfl, by kernel_rfl, by kernel_rfl⟩
section
variable {T : List St} {S : List Sm} {X : List (Int × Int)} {nT nS nX N : Nat} {ps : List Int}
/-- A chart that can be drawn. -/
structure GoodC (ps : List Int) (T : List St) (S : List Sm) (X : List (Int × Int)) (N : Nat) : Prop where
  pl : ps.length = 117
  p : pulOK ps
  r : runOK T S X N
  n : N ≤ 200
  c : cfV S (nth ps 110) (nth ps 111) (-1) (-1)
theorem cfV_no {S : List Sm} {g s b : Int} (h : cfV S g s (-1) b) : ∀ j, j < S.length → ∀ i, i < j → ¬ cfl S g s j i := by
  rcases h with ⟨h, _⟩ | ⟨i0, j0, h, _⟩
  · exact h
  · omega
theorem GoodC.sm (G : GoodC ps T S X N) : SmOK S (nth ps 110) (nth ps 111) N := by
  have hgs := in_2 G.p.g
  have bd : ∀ i, i < S.length → 0 ≤ (nth S i).a ∧ (nth S i).a ≤ N ∧ 0 ≤ (nth S i).l ∧ (nth S i).l ≤ (nth S i).h ∧ (nth S i).h ≤ 1000000 := fun i hi => by
    have h1 := G.r.s i (by omega)
    have h2 := nxS_nn (i := i) fun j hj => G.r.s j (by omega)
    have h3 := rg_1 h1.2.2
    have h4 := h1.1
    have h5 := h1.2.1
    omega
  refine ⟨hgs.1, hgs.2, G.n, bd, ?_, cfV_no G.c⟩
  intro j
  induction j with
  | zero => intro _ i h; omega
  | succ j ih =>
    intro hj i hi
    have h1 : nxS S (j + 1) ≤ (nth S (j + 1)).a := (G.r.s (j + 1) hj).1
    have h2 : nxS S (j + 1) = (nth S j).a + 1 := rfl
    by_cases c : i = j
    · subst c; omega
    · have := ih (by omega) i (by omega)
      omega
abbrev chO (ps : List Int) (u v : Value) : Option AObj := some (.cells ⟨chC ps u v, 1, false⟩)
abbrev knO (B : List Kn) : Option AObj := some (.cells ⟨rows eK B, 3, false⟩)
abbrev zF (S : List Sm) (N : Nat) : List Kn := seenF S (N + 1) S.length
set_option maxHeartbeats 4000000 in
theorem chart_c (hT : T.length = nT) (hS : S.length = nS) (hX : X.length = nX) (G : GoodC ps T S X N) :
    Fc Try.prog 20 [.agg ⟨rows eI ps⟩, ruV (sO 1 nT) (sO 2 nS) (sO 3 nX) N] (Hp 4 (M4 T S X)) (.tuple #[pt 4, I6 0])
      (Hp 4 (M4 T S X ++ [chO ps (slN 5 (N + 1)) (slN 6 (N + 1)), knO (bL (zF S N) (nth ps 110) (nth ps 111) N), knO (fL (zF S N) (nth ps 110) (nth ps 111) N)])) := by
  have hl := G.pl
  have H := G.sm
  have hN := G.n
  have b100 := G.r.s1
  refine Fc.introX fn20 (by simp) (fun _ => grow_hq (by simp) rfl) ?_; simp only [argF]
  have hall1 : (rows eI ps).all Value.oneCell' = true := rows_one' (f := eI) ps
  have t117 := takeC_0 (rows eI ps) 117 (by rw [rows_len (f := eI), hl])
  have l117 : (rows eI ps).length = 117 := by rw [rows_len (f := eI), hl]
  have g110 := getI (xs := ps) (i := 110) (by omega)
  have g111 := getI (xs := ps) (i := 111) (by omega)
  have hgs := in_2 G.p.g
  refine ITri.seq ?_
  refine ITri.reg pok ?_; simp -implicitDefEqProofs (disch := first | decide | exact of_eq_true (eq_true rfl) | omega | assumption) only [hall1,  ↓vcD, vcE, ↓vcG, vcF, evs, evP, evB, intsOf, fillC, Value.cells, pt, Value.oneCell', reduceIte, reduceCtorEq, Nat.reduceEqDiff, Nat.reduceAdd, Nat.reduceMul, Nat.reduceLT, Nat.reduceBEq, Nat.reduceLeDiff, Nat.reduceSub] -- r0
  refine ITri.seq ?_
  refine ITri.seq ?_
  refine ITri.reg pok ?_; simp -implicitDefEqProofs (disch := first | decide | exact of_eq_true (eq_true rfl) | omega | assumption) only [t117,  ↓vcD, vcE, ↓vcG, vcF, evs, evP, evB, intsOf, fillC, Value.cells, pt, Value.oneCell', reduceIte, reduceCtorEq, Nat.reduceEqDiff, Nat.reduceAdd, Nat.reduceMul, Nat.reduceLT, Nat.reduceBEq, Nat.reduceLeDiff, Nat.reduceSub] -- r1
  refine ⟨_, _, conflict_f (a := -1) (b := -1) hl hT hS hX (by omega) G.p G.r G.c (sees0 rfl (of_decide_eq_true rfl)) (get_hq rfl rfl) (get_hq rfl rfl) (get_hq rfl rfl), ?_⟩
  try simp -implicitDefEqProofs (disch := first | decide | exact of_eq_true (eq_true rfl) | omega | assumption) only [ ↓vcD, vcE, ↓vcG, vcF, evs, evP, evB, intsOf, fillC, Value.cells, pt, Value.oneCell', reduceIte, reduceCtorEq, Nat.reduceEqDiff, Nat.reduceAdd, Nat.reduceMul, Nat.reduceLT, Nat.reduceBEq, Nat.reduceLeDiff, Nat.reduceSub]
  refine ITri.seq ?_
  refine ITri.reg pok ?_; simp -implicitDefEqProofs (disch := first | decide | exact of_eq_true (eq_true rfl) | omega | assumption) only [decide_true, Bool.not_true,  ↓vcD, vcE, ↓vcG, vcF, evs, evP, evB, intsOf, fillC, Value.cells, pt, Value.oneCell', reduceIte, reduceCtorEq, Nat.reduceEqDiff, Nat.reduceAdd, Nat.reduceMul, Nat.reduceLT, Nat.reduceBEq, Nat.reduceLeDiff, Nat.reduceSub] -- r2
  refine ITri.cond (v := false) rfl (fun h => by cases h) (fun _ => ?_)
  refine ITri.seq ?_
  have n10 : ¬ (-1 : Int) ≥ 0 := by decide
  refine ITri.reg pok ?_; simp -implicitDefEqProofs (disch := first | decide | exact of_eq_true (eq_true rfl) | omega | assumption) only [n10, decide_false,  ↓vcD, vcE, ↓vcG, vcF, evs, evP, evB, intsOf, fillC, Value.cells, pt, Value.oneCell', reduceIte, reduceCtorEq, Nat.reduceEqDiff, Nat.reduceAdd, Nat.reduceMul, Nat.reduceLT, Nat.reduceBEq, Nat.reduceLeDiff, Nat.reduceSub] -- r4
  refine ITri.cond (v := false) rfl (fun h => by cases h) (fun _ => ?_); refine ITri.skip ?_; simp only [SeqQ_normal, BlkQ_normal]
  have hN1 : (N : Int) + 1 = ((N + 1 : Nat) : Int) := by omega
  have rK := rep_K (N + 1)
  refine ITri.seq ?_
  refine ITri.reg pok ?_; simp -implicitDefEqProofs (disch := first | decide | exact of_eq_true (eq_true rfl) | omega | assumption) only [hN1, Int.toNat_natCast, rK,  ↓vcD, vcE, ↓vcG, vcF, evs, evP, evB, intsOf, fillC, Value.cells, pt, Value.oneCell', reduceIte, reduceCtorEq, Nat.reduceEqDiff, Nat.reduceAdd, Nat.reduceMul, Nat.reduceLT, Nat.reduceBEq, Nat.reduceLeDiff, Nat.reduceSub] -- r6
  refine ITri.seq ?_
  refine ITri.seq ?_
  refine ITri.reg pok ?_; simp -implicitDefEqProofs (disch := first | decide | exact of_eq_true (eq_true rfl) | omega | assumption) only [ ↓vcD, vcE, ↓vcG, vcF, evs, evP, evB, intsOf, fillC, Value.cells, pt, Value.oneCell', reduceIte, reduceCtorEq, Nat.reduceEqDiff, Nat.reduceAdd, Nat.reduceMul, Nat.reduceLT, Nat.reduceBEq, Nat.reduceLeDiff, Nat.reduceSub] -- r7
  refine ITri.block ?_ -- 0
  refine ITri.loop (fun k : Nat => [(2, pt 4), (3, pt 5), (9, slN 6 (N + 1)), (32, sO 2 nS), (33, .int .i64 nS), (34, .int .i64 k)]) (fun _ => []) (fun k => Hp 4 [none, some (.cells ⟨rows eT T, 0, false⟩), some (.cells ⟨rows eM S, 0, false⟩), some (.cells ⟨rows eII X, 0, false⟩), some (.cells ⟨rows eI ps, 1, false⟩), some (.cells ⟨[sO 1 nT, I6 N, sO 2 nS, sO 3 nX], 1, false⟩), knO (seenF S (N + 1) k)]) (fun k => k ≤ nS) (fun k => nS - k) 0 (Nat.zero_le _) (Wk.sub ⟨rfl, rfl, rfl, rfl, rfl, rfl, trivial⟩) fun k hk => ?_
  refine ITri.seq ?_
  refine ITri.reg pok ?_; simp -implicitDefEqProofs (disch := first | decide | exact of_eq_true (eq_true rfl) | omega | assumption) only [ ↓vcD, vcE, ↓vcG, vcF, evs, evP, evB, intsOf, fillC, Value.cells, pt, Value.oneCell', reduceIte, reduceCtorEq, Nat.reduceEqDiff, Nat.reduceAdd, Nat.reduceMul, Nat.reduceLT, Nat.reduceBEq, Nat.reduceLeDiff, Nat.reduceSub] -- r8
  refine ITri.seq ?_
  refine ITri.condD (by rfl) (fun h4 => ?_) (fun h4 => ?_) -- %35
  · have hkn : k < nS := by omega
    have g1 := takeM (xs := S) (i := k) (by omega)
    have bk := H.bd k (by omega)
    have hln := seenF_len S (N + 1) k
    have hk1 : (k : Int) + 1 = ((k + 1 : Nat) : Int) := by omega
    have esn : seenF S (N + 1) (k + 1) = (seenF S (N + 1) k).set (nth S k).a.toNat ⟨(nth S k).l, (nth S k).h, true⟩ := rfl
    obtain ⟨a, ha⟩ : ∃ a : Nat, (nth S k).a = a := ⟨(nth S k).a.toNat, by omega⟩
    rw [ha] at g1 bk
    rw [ha, Int.toNat_natCast] at esn
    generalize (nth S k).l = xl at *
    generalize (nth S k).h = xh at *
    generalize hB : seenF S (N + 1) k = B at *
    have hw : writeAt (rows eK B) (a * 3) [I6 xl, I6 xh, .bool true] = rows eK (B.set a ⟨xl, xh, true⟩) := wrK ⟨xl, xh, true⟩ (by omega)
    have hBl : (rows eK B).length = (N + 1) * 3 := by rw [rows_len (f := eK), hln]
    refine ITri.skip ?_; simp only [SeqQ_normal, BlkQ_normal]
    refine ITri.seq ?_
    refine ITri.block ?_ -- 1
    refine ITri.seq ?_
    refine ITri.reg pok ?_; simp -implicitDefEqProofs (disch := first | decide | exact of_eq_true (eq_true rfl) | omega | assumption) only [g1, wr33,  ↓vcD, vcE, ↓vcG, vcF, evs, evP, evB, intsOf, fillC, Value.cells, pt, Value.oneCell', reduceIte, reduceCtorEq, Nat.reduceEqDiff, Nat.reduceAdd, Nat.reduceMul, Nat.reduceLT, Nat.reduceBEq, Nat.reduceLeDiff, Nat.reduceSub] -- r9
    refine ITri.reg pok ?_; simp -implicitDefEqProofs (disch := first | decide | exact of_eq_true (eq_true rfl) | omega | assumption) only [Int.toNat_natCast, hw, hBl,  ↓vcD, vcE, ↓vcG, vcF, evs, evP, evB, intsOf, fillC, Value.cells, pt, Value.oneCell', reduceIte, reduceCtorEq, Nat.reduceEqDiff, Nat.reduceAdd, Nat.reduceMul, Nat.reduceLT, Nat.reduceBEq, Nat.reduceLeDiff, Nat.reduceSub] -- r10
    refine ITri.reg pok ?_; simp -implicitDefEqProofs (disch := first | decide | exact of_eq_true (eq_true rfl) | omega | assumption) only [hk1,  ↓vcD, vcE, ↓vcG, vcF, evs, evP, evB, intsOf, fillC, Value.cells, pt, Value.oneCell', reduceIte, reduceCtorEq, Nat.reduceEqDiff, Nat.reduceAdd, Nat.reduceMul, Nat.reduceLT, Nat.reduceBEq, Nat.reduceLeDiff, Nat.reduceSub] -- r11
    exact LoopQ.next (k + 1) (by omega) (by omega) (by rw [esn]; exact Wk.gc [0, 1, 2, 3, 4, 5, 6] [] (of_decide_eq_true rfl) (of_decide_eq_true rfl) rfl rfl (of_decide_eq_true rfl) rfl rfl (by repeat (first | exact xiOK_nil | refine xiOK_cons (by first | trivial | exact roomOK _ (by decide)) ?_)) rfl (by simp -implicitDefEqProofs (disch := first | decide | exact of_eq_true (eq_true rfl) | omega | assumption) only [ objOK, sgL, xiL, objAt, nilO, OM, mvL, mv, mvS, okS, okP, mvL_rows, okML, okM, okML_rows, List.getElem?_cons_zero, Option.getD_some, implies_true, imp_self, ne_eq, and_self, true_or, or_true, Nat.zero_mul, Nat.sub_self, openB_self, ↓vcD, vcE, ↓vcG, vcF, evs, evP, evB, intsOf, fillC, Value.cells, pt, Value.oneCell', reduceIte, reduceCtorEq, Nat.reduceEqDiff, Nat.reduceAdd, Nat.reduceMul, Nat.reduceLT, Nat.reduceBEq, Nat.reduceLeDiff, Nat.reduceSub]) (by simp -implicitDefEqProofs (disch := first | decide | exact of_eq_true (eq_true rfl) | omega | assumption) only [ valOK, sgL, xiL, mv, mvA, mvL, mvS, okS, okP, okM, okMA, okML, Option.getD_some, implies_true, and_self, true_or, or_true, Int.natCast_add, Int.cast_ofNat_Int, Nat.zero_mul, Nat.sub_self, openB_self, ↓vcD, vcE, ↓vcG, vcF, evs, evP, evB, intsOf, fillC, Value.cells, pt, Value.oneCell', reduceIte, reduceCtorEq, Nat.reduceEqDiff, Nat.reduceAdd, Nat.reduceMul, Nat.reduceLT, Nat.reduceBEq, Nat.reduceLeDiff, Nat.reduceSub]) (fun _ h => by cases h) ⟨rfl, fun _ h => by cases h⟩)
  refine ITri.exit ?_; try simp -implicitDefEqProofs (disch := first | decide | exact of_eq_true (eq_true rfl) | omega | assumption) only [ ↓vcD, vcE, ↓vcG, vcF, evs, evP, evB, intsOf, fillC, Value.cells, pt, Value.oneCell', reduceIte, reduceCtorEq, Nat.reduceEqDiff, Nat.reduceAdd, Nat.reduceMul, Nat.reduceLT, Nat.reduceBEq, Nat.reduceLeDiff, Nat.reduceSub] -- exit 0
  obtain rfl : nS = k := by omega
  have hZl := seenF_len S (N + 1) S.length
  have hb1 := fun t ht => bv_says H (t := t) ht
  have hf1 := fun t ht => fv_says H (j := t) ht
  have hbL : bL (zF S N) (nth ps 110) (nth ps 111) N = (List.range (N + 1)).map (bvF (seenF S (N + 1) S.length) (nth ps 110) (nth ps 111)) := rfl
  have hfL : fL (zF S N) (nth ps 110) (nth ps 111) N = (List.range (N + 1)).map (fun t => fvF (seenF S (N + 1) S.length) (nth ps 110) (nth ps 111) N (N - t)) := rfl
  rw [hbL, hfL]
  rw [hS] at hZl hb1 hf1 ⊢
  generalize hZ : seenF S (N + 1) nS = Z at *
  generalize hgg : nth ps 110 = g at *
  generalize hss : nth ps 111 = s at *
  have hw1 := ch_w1 hl
  have hcl := fun u v => chC_len hl u v
  have hw2 := fun u v x => ch_w2 hl u v x
  have hw3 := fun u v x => ch_w3 hl u v x
  have hcu := fun u v => chC_u hl u v
  have hcv := fun u v => chC_v hl u v
  have hnn : ∀ a, (notNil (.pointer (some a)) = true) = True := fun a => eq_true rfl
  have hca : ∀ a n c a' n' c', (chC ps (.slice a n c) (.slice a' n' c')).all Value.oneCell' = true := fun a n c a' n' c' => chC_all _ _ rfl rfl
  refine ITri.seq ?_
  refine ITri.draw pok ?_; simp -implicitDefEqProofs (disch := first | decide | exact of_eq_true (eq_true rfl) | omega | assumption) only [t117, l117, hN1, Int.toNat_natCast, rK, hw1, hcl, hw2, hw3, hca,  ↓vcD, vcE, ↓vcG, vcF, evs, evP, evB, intsOf, fillC, Value.cells, pt, Value.oneCell', reduceIte, reduceCtorEq, Nat.reduceEqDiff, Nat.reduceAdd, Nat.reduceMul, Nat.reduceLT, Nat.reduceBEq, Nat.reduceLeDiff, Nat.reduceSub] -- r12
  refine ITri.seq ?_
  refine ITri.seq ?_
  refine ITri.reg pok ?_; simp -implicitDefEqProofs (disch := first | decide | exact of_eq_true (eq_true rfl) | omega | assumption) only [ ↓vcD, vcE, ↓vcG, vcF, evs, evP, evB, intsOf, fillC, Value.cells, pt, Value.oneCell', reduceIte, reduceCtorEq, Nat.reduceEqDiff, Nat.reduceAdd, Nat.reduceMul, Nat.reduceLT, Nat.reduceBEq, Nat.reduceLeDiff, Nat.reduceSub] -- r13
  have hZr : (rows eK Z).length = (N + 1) * 3 := by rw [rows_len (f := eK), hZl]
  have cmv := fun u v σ ξ => chC_mv (ps := ps) u v σ ξ
  have cok := fun u v ξ B => chC_ok (ps := ps) u v ξ B
  have rep0 : (List.replicate (N + 1) noK).length = N + 1 := List.length_replicate
  refine ITri.block ?_ -- 2
  refine ITri.loop (fun k : Nat × List Kn => [(2, pt 4), (3, pt 5), (9, slN 6 (N + 1)), (12, pt 9), (62, .int .i64 ((N + 1 : Nat) : Int)), (63, .int .i64 k.1)]) (fun _ => []) (fun k => Hp 4 [none, some (.cells ⟨rows eT T, 0, false⟩), some (.cells ⟨rows eM S, 0, false⟩), some (.cells ⟨rows eII X, 0, false⟩), some (.cells ⟨rows eI ps, 1, false⟩), some (.cells ⟨[sO 1 nT, I6 N, sO 2 nS, sO 3 nX], 1, false⟩), knO Z, knO k.2, knO (List.replicate (N + 1) noK), chO ps (slN 7 (N + 1)) (slN 8 (N + 1))]) (fun k => k.1 ≤ N + 1 ∧ k.2.length = N + 1 ∧ ∀ j, j < k.1 → nth k.2 j = bvF Z g s j) (fun k => N + 1 - k.1) (0, List.replicate (N + 1) noK) ⟨Nat.zero_le _, rep0, fun j hj => by cases hj⟩ (Wk.sub ⟨rfl, rfl, rfl, rfl, rfl, rfl, trivial⟩) fun kB hk => ?_
  obtain ⟨k, B⟩ := kB
  obtain ⟨hk, hBl, hBv⟩ := hk
  simp only at hk hBl hBv ⊢
  refine ITri.seq ?_
  refine ITri.reg pok ?_; simp -implicitDefEqProofs (disch := first | decide | exact of_eq_true (eq_true rfl) | omega | assumption) only [ ↓vcD, vcE, ↓vcG, vcF, evs, evP, evB, intsOf, fillC, Value.cells, pt, Value.oneCell', reduceIte, reduceCtorEq, Nat.reduceEqDiff, Nat.reduceAdd, Nat.reduceMul, Nat.reduceLT, Nat.reduceBEq, Nat.reduceLeDiff, Nat.reduceSub] -- r14
  refine ITri.seq ?_
  refine ITri.condD (by rfl) (fun h6 => ?_) (fun h6 => ?_) -- %64
  · have hkn : k < N + 1 := by omega
    have hk1 : (k : Int) + 1 = ((k + 1 : Nat) : Int) := by omega
    have gz := takeK (xs := Z) (i := k) (by omega)
    have hw : writeAt (rows eK B) (k * 3) [I6 (nth Z k).l, I6 (nth Z k).h, .bool (nth Z k).s] = rows eK (B.set k (nth Z k)) := wrK (nth Z k) (by omega)
    have hBr : (rows eK B).length = (N + 1) * 3 := by rw [rows_len (f := eK), hBl]
    have hBl1 : (B.set k (nth Z k)).length = N + 1 := by rw [List.length_set, hBl]
    have hB1k : nth (B.set k (nth Z k)) k = nth Z k := nth_set _ (by omega)
    have hB1j : ∀ j, j < k → nth (B.set k (nth Z k)) j = bvF Z g s j := fun j hj => by rw [nth_set_ne _ (by omega)]; exact hBv j hj
    refine ITri.skip ?_; simp only [SeqQ_normal, BlkQ_normal]
    refine ITri.seq ?_
    refine ITri.block ?_ -- 3
    refine ITri.seq ?_
    refine ITri.reg pok ?_; simp -implicitDefEqProofs (disch := first | decide | exact of_eq_true (eq_true rfl) | omega | assumption) only [ ↓vcD, vcE, ↓vcG, vcF, evs, evP, evB, intsOf, fillC, Value.cells, pt, Value.oneCell', reduceIte, reduceCtorEq, Nat.reduceEqDiff, Nat.reduceAdd, Nat.reduceMul, Nat.reduceLT, Nat.reduceBEq, Nat.reduceLeDiff, Nat.reduceSub] -- r15
    refine ITri.seq ?_
    refine ITri.draw pok ?_; simp -implicitDefEqProofs (disch := first | decide | exact of_eq_true (eq_true rfl) | omega | assumption) only [hcu, hcv, gz, hw, hBr, hnn, true_and,  ↓vcD, vcE, ↓vcG, vcF, evs, evP, evB, intsOf, fillC, Value.cells, pt, Value.oneCell', reduceIte, reduceCtorEq, Nat.reduceEqDiff, Nat.reduceAdd, Nat.reduceMul, Nat.reduceLT, Nat.reduceBEq, Nat.reduceLeDiff, Nat.reduceSub] -- r16
    generalize B.set k (nth Z k) = B1 at *
    have hB1r : (rows eK B1).length = (N + 1) * 3 := by rw [rows_len (f := eK), hBl1]
    refine ITri.seq ?_
    cases k with
    | zero =>
      have z0 : ¬ (((0 : Nat) : Int) > 0) := by decide
      refine ITri.reg pok ?_; simp -implicitDefEqProofs (disch := first | decide | exact of_eq_true (eq_true rfl) | omega | assumption) only [z0, decide_false,  ↓vcD, vcE, ↓vcG, vcF, evs, evP, evB, intsOf, fillC, Value.cells, pt, Value.oneCell', reduceIte, reduceCtorEq, Nat.reduceEqDiff, Nat.reduceAdd, Nat.reduceMul, Nat.reduceLT, Nat.reduceBEq, Nat.reduceLeDiff, Nat.reduceSub] -- r17
      refine ITri.cut (fun _ : Unit => [(2, pt 4), (3, pt 5), (9, slN 6 (N + 1)), (12, pt 9), (62, .int .i64 ((N + 1 : Nat) : Int)), (63, .int .i64 (0 : Nat))]) (fun _ => []) (fun _ => Hp 4 [none, some (.cells ⟨rows eT T, 0, false⟩), some (.cells ⟨rows eM S, 0, false⟩), some (.cells ⟨rows eII X, 0, false⟩), some (.cells ⟨rows eI ps, 1, false⟩), some (.cells ⟨[sO 1 nT, I6 N, sO 2 nS, sO 3 nX], 1, false⟩), knO Z, knO B1, knO (List.replicate (N + 1) noK), chO ps (slN 7 (N + 1)) (slN 8 (N + 1))]) (fun _ => True) ?_ (fun _ _ => ?_)
      · refine ITri.cond (v := false) rfl (fun h => by cases h) (fun _ => ?_); refine ITri.skip ?_
        exact CutQ.mk () trivial (Wk.sub ⟨rfl, rfl, rfl, rfl, rfl, rfl, trivial⟩)
      refine ITri.reg pok ?_; simp -implicitDefEqProofs (disch := first | decide | exact of_eq_true (eq_true rfl) | omega | assumption) only [hk1,  ↓vcD, vcE, ↓vcG, vcF, evs, evP, evB, intsOf, fillC, Value.cells, pt, Value.oneCell', reduceIte, reduceCtorEq, Nat.reduceEqDiff, Nat.reduceAdd, Nat.reduceMul, Nat.reduceLT, Nat.reduceBEq, Nat.reduceLeDiff, Nat.reduceSub] -- r19
      refine LoopQ.next (0 + 1, B1) ⟨by omega, hBl1, fun j hj => ?_⟩ (by show N + 1 - (0 + 1) < N + 1 - 0; omega) (Wk.sub ⟨rfl, rfl, rfl, rfl, rfl, rfl, trivial⟩)
      obtain rfl : j = 0 := by simp only at hj; omega
      exact hB1k
    | succ k =>
      have z0 : (((k + 1 : Nat) : Int) > 0) := by omega
      have hkm : ((k + 1 : Nat) : Int) - 1 = (k : Int) := by omega
      have gb := takeK (xs := B1) (i := k) (by omega)
      rw [hB1j k (by omega)] at gb
      have bz : -200000000 ≤ (bvF Z g s k).l ∧ (bvF Z g s k).l ≤ 1000000 ∧ 0 ≤ (bvF Z g s k).h ∧ (bvF Z g s k).h ≤ 201000000 := (hb1 k (by omega)).bd H (by omega) (by omega)
      have ebv : bvF Z g s (k + 1) = (nth Z (k + 1)).meet ((bvF Z g s k).later g s) := rfl
      have F1 := fun {h : AH} h0 => later_f (bvF Z g s k) g s ⟨by omega, by omega, by omega, by omega⟩ hgs.1 hgs.2 (h := h) h0
      have F2 := fun {h : AH} h0 => meet_f (nth Z (k + 1)) ((bvF Z g s k).later g s) (h := h) h0
      rw [← ebv] at F2
      have hw2' : writeAt (rows eK B1) ((k + 1) * 3) [I6 (bvF Z g s (k + 1)).l, I6 (bvF Z g s (k + 1)).h, .bool (bvF Z g s (k + 1)).s] = rows eK (B1.set (k + 1) (bvF Z g s (k + 1))) := wrK _ (by omega)
      refine ITri.reg pok ?_; simp -implicitDefEqProofs (disch := first | decide | exact of_eq_true (eq_true rfl) | omega | assumption) only [z0, decide_true,  ↓vcD, vcE, ↓vcG, vcF, evs, evP, evB, intsOf, fillC, Value.cells, pt, Value.oneCell', reduceIte, reduceCtorEq, Nat.reduceEqDiff, Nat.reduceAdd, Nat.reduceMul, Nat.reduceLT, Nat.reduceBEq, Nat.reduceLeDiff, Nat.reduceSub] -- r17
      refine ITri.cut (fun _ : Unit => [(2, pt 4), (3, pt 5), (9, slN 6 (N + 1)), (12, pt 9), (62, .int .i64 ((N + 1 : Nat) : Int)), (63, .int .i64 (k + 1 : Nat))]) (fun _ => []) (fun _ => Hp 4 [none, some (.cells ⟨rows eT T, 0, false⟩), some (.cells ⟨rows eM S, 0, false⟩), some (.cells ⟨rows eII X, 0, false⟩), some (.cells ⟨rows eI ps, 1, false⟩), some (.cells ⟨[sO 1 nT, I6 N, sO 2 nS, sO 3 nX], 1, false⟩), knO Z, knO (B1.set (k + 1) (bvF Z g s (k + 1))), knO (List.replicate (N + 1) noK), chO ps (slN 7 (N + 1)) (slN 8 (N + 1))]) (fun _ => True) ?_ (fun _ _ => ?_)
      · refine ITri.cond (v := true) rfl (fun _ => ?_) (fun h => by cases h)
        refine ITri.draw pok ?_; simp -implicitDefEqProofs (disch := first | decide | exact of_eq_true (eq_true rfl) | omega | assumption) only [hcu, hcv, gz, gb, hkm, Int.toNat_natCast, g110, g111, hgg, hss, hnn, true_and,  ↓vcD, vcE, ↓vcG, vcF, evs, evP, evB, intsOf, fillC, Value.cells, pt, Value.oneCell', reduceIte, reduceCtorEq, Nat.reduceEqDiff, Nat.reduceAdd, Nat.reduceMul, Nat.reduceLT, Nat.reduceBEq, Nat.reduceLeDiff, Nat.reduceSub] -- r18
        refine ⟨_, _, F1 (sees0 rfl (of_decide_eq_true rfl)), ?_⟩
        simp -implicitDefEqProofs (disch := first | decide | exact of_eq_true (eq_true rfl) | omega | assumption) only [hcu, hcv, gz, gb, hkm, Int.toNat_natCast, hnn, true_and,  ↓vcD, vcE, ↓vcG, vcF, evs, evP, evB, intsOf, fillC, Value.cells, pt, Value.oneCell', reduceIte, reduceCtorEq, Nat.reduceEqDiff, Nat.reduceAdd, Nat.reduceMul, Nat.reduceLT, Nat.reduceBEq, Nat.reduceLeDiff, Nat.reduceSub]
        refine ⟨_, _, F2 (sees0 rfl (of_decide_eq_true rfl)), ?_⟩
        simp -implicitDefEqProofs (disch := first | decide | exact of_eq_true (eq_true rfl) | omega | assumption) only [hcu, hcv, hw2', hB1r, Int.toNat_natCast, hnn, true_and,  ↓vcD, vcE, ↓vcG, vcF, evs, evP, evB, intsOf, fillC, Value.cells, pt, Value.oneCell', reduceIte, reduceCtorEq, Nat.reduceEqDiff, Nat.reduceAdd, Nat.reduceMul, Nat.reduceLT, Nat.reduceBEq, Nat.reduceLeDiff, Nat.reduceSub]
        exact CutQ.mk () trivial (Wk.sub ⟨rfl, rfl, rfl, rfl, rfl, rfl, trivial⟩)
      refine ITri.reg pok ?_; simp -implicitDefEqProofs (disch := first | decide | exact of_eq_true (eq_true rfl) | omega | assumption) only [hk1,  ↓vcD, vcE, ↓vcG, vcF, evs, evP, evB, intsOf, fillC, Value.cells, pt, Value.oneCell', reduceIte, reduceCtorEq, Nat.reduceEqDiff, Nat.reduceAdd, Nat.reduceMul, Nat.reduceLT, Nat.reduceBEq, Nat.reduceLeDiff, Nat.reduceSub] -- r19
      refine LoopQ.next (k + 1 + 1, B1.set (k + 1) (bvF Z g s (k + 1))) ⟨by omega, by rw [List.length_set]; exact hBl1, fun j hj => ?_⟩ (by show N + 1 - (k + 1 + 1) < N + 1 - (k + 1); omega) (Wk.sub ⟨rfl, rfl, rfl, rfl, rfl, rfl, trivial⟩)
      simp only at hj ⊢
      by_cases c : j = k + 1
      · rw [c, nth_set _ (by omega)]
      · rw [nth_set_ne _ (by omega)]; exact hB1j j (by omega)
  refine ITri.exit ?_; try simp -implicitDefEqProofs (disch := first | decide | exact of_eq_true (eq_true rfl) | omega | assumption) only [ ↓vcD, vcE, ↓vcG, vcF, evs, evP, evB, intsOf, fillC, Value.cells, pt, Value.oneCell', reduceIte, reduceCtorEq, Nat.reduceEqDiff, Nat.reduceAdd, Nat.reduceMul, Nat.reduceLT, Nat.reduceBEq, Nat.reduceLeDiff, Nat.reduceSub] -- exit 2
  obtain rfl : k = N + 1 := by omega
  have hBL : (List.range (N + 1)).map (bvF Z g s) = B := ext_nth (by rw [List.length_map, List.length_range, hBl]) fun i hi => by
    rw [List.length_map, List.length_range] at hi
    rw [nth_map_range _ hi, hBv i hi]
  rw [hBL]
  clear hBL
  refine ITri.seq ?_
  refine ITri.seq ?_
  refine ITri.reg pok ?_; simp -implicitDefEqProofs (disch := first | decide | exact of_eq_true (eq_true rfl) | omega | assumption) only [ ↓vcD, vcE, ↓vcG, vcF, evs, evP, evB, intsOf, fillC, Value.cells, pt, Value.oneCell', reduceIte, reduceCtorEq, Nat.reduceEqDiff, Nat.reduceAdd, Nat.reduceMul, Nat.reduceLT, Nat.reduceBEq, Nat.reduceLeDiff, Nat.reduceSub] -- r20
  refine ITri.block ?_ -- 4
  refine ITri.loop (fun k : Nat × List Kn => [(2, pt 4), (3, pt 5), (9, slN 6 (N + 1)), (12, pt 9), (14, .int .i64 ((k.1 : Nat) - 1))]) (fun _ => []) (fun k => Hp 4 [none, some (.cells ⟨rows eT T, 0, false⟩), some (.cells ⟨rows eM S, 0, false⟩), some (.cells ⟨rows eII X, 0, false⟩), some (.cells ⟨rows eI ps, 1, false⟩), some (.cells ⟨[sO 1 nT, I6 N, sO 2 nS, sO 3 nX], 1, false⟩), knO Z, knO B, knO k.2, chO ps (slN 7 (N + 1)) (slN 8 (N + 1))]) (fun k => k.1 ≤ N + 1 ∧ k.2.length = N + 1 ∧ ∀ j, k.1 ≤ j → j < N + 1 → nth k.2 j = fvF Z g s N (N - j)) (fun k => k.1) (N + 1, List.replicate (N + 1) noK) ⟨Nat.le_refl _, rep0, fun j hj hj2 => absurd hj (by simp only at hj ⊢; omega)⟩ (by simp only; rw [show (((N + 1 : Nat) : Int) - 1) = N by omega]; exact Wk.sub ⟨rfl, rfl, rfl, rfl, rfl, trivial⟩) fun kC hk => ?_
  obtain ⟨u, C⟩ := kC
  obtain ⟨hu, hCl, hCv⟩ := hk
  simp only at hu hCl hCv ⊢
  refine ITri.seq ?_
  refine ITri.seq ?_
  refine ITri.reg pok ?_; simp -implicitDefEqProofs (disch := first | decide | exact of_eq_true (eq_true rfl) | omega | assumption) only [ ↓vcD, vcE, ↓vcG, vcF, evs, evP, evB, intsOf, fillC, Value.cells, pt, Value.oneCell', reduceIte, reduceCtorEq, Nat.reduceEqDiff, Nat.reduceAdd, Nat.reduceMul, Nat.reduceLT, Nat.reduceBEq, Nat.reduceLeDiff, Nat.reduceSub] -- r21
  refine ITri.condD (by rfl) (fun h9 => ?_) (fun h9 => ?_) -- %106
  · obtain ⟨t, rfl⟩ : ∃ t, u = t + 1 := ⟨u - 1, by omega⟩
    have htm : ((t + 1 : Nat) : Int) - 1 = (t : Int) := by omega
    have gz := takeK (xs := Z) (i := t) (by omega)
    have hw : writeAt (rows eK C) (t * 3) [I6 (nth Z t).l, I6 (nth Z t).h, .bool (nth Z t).s] = rows eK (C.set t (nth Z t)) := wrK (nth Z t) (by omega)
    have hCr : (rows eK C).length = (N + 1) * 3 := by rw [rows_len (f := eK), hCl]
    have hCl1 : (C.set t (nth Z t)).length = N + 1 := by rw [List.length_set, hCl]
    have hC1k : nth (C.set t (nth Z t)) t = nth Z t := nth_set _ (by omega)
    have hC1j : ∀ j, t + 1 ≤ j → j < N + 1 → nth (C.set t (nth Z t)) j = fvF Z g s N (N - j) := fun j hj hj2 => by rw [nth_set_ne _ (by omega)]; exact hCv j hj hj2
    refine ITri.skip ?_; simp only [SeqQ_normal, BlkQ_normal]
    refine ITri.seq ?_
    refine ITri.block ?_ -- 5
    refine ITri.seq ?_
    refine ITri.draw pok ?_; simp -implicitDefEqProofs (disch := first | decide | exact of_eq_true (eq_true rfl) | omega | assumption) only [hcu, hcv, htm, Int.toNat_natCast, gz, hw, hCr, hnn, true_and,  ↓vcD, vcE, ↓vcG, vcF, evs, evP, evB, intsOf, fillC, Value.cells, pt, Value.oneCell', reduceIte, reduceCtorEq, Nat.reduceEqDiff, Nat.reduceAdd, Nat.reduceMul, Nat.reduceLT, Nat.reduceBEq, Nat.reduceLeDiff, Nat.reduceSub] -- r23
    generalize C.set t (nth Z t) = C1 at *
    have hC1r : (rows eK C1).length = (N + 1) * 3 := by rw [rows_len (f := eK), hCl1]
    refine ITri.seq ?_
    by_cases ht : t = N
    · subst ht
      have z0 : ¬ ((t : Int) < t) := by omega
      refine ITri.reg pok ?_; simp -implicitDefEqProofs (disch := first | decide | exact of_eq_true (eq_true rfl) | omega | assumption) only [htm, z0, decide_false,  ↓vcD, vcE, ↓vcG, vcF, evs, evP, evB, intsOf, fillC, Value.cells, pt, Value.oneCell', reduceIte, reduceCtorEq, Nat.reduceEqDiff, Nat.reduceAdd, Nat.reduceMul, Nat.reduceLT, Nat.reduceBEq, Nat.reduceLeDiff, Nat.reduceSub] -- r24
      refine ITri.cut (fun _ : Unit => [(2, pt 4), (3, pt 5), (9, slN 6 (t + 1)), (12, pt 9), (14, .int .i64 (t : Nat))]) (fun _ => []) (fun _ => Hp 4 [none, some (.cells ⟨rows eT T, 0, false⟩), some (.cells ⟨rows eM S, 0, false⟩), some (.cells ⟨rows eII X, 0, false⟩), some (.cells ⟨rows eI ps, 1, false⟩), some (.cells ⟨[sO 1 nT, I6 t, sO 2 nS, sO 3 nX], 1, false⟩), knO Z, knO B, knO C1, chO ps (slN 7 (t + 1)) (slN 8 (t + 1))]) (fun _ => True) ?_ (fun _ _ => ?_)
      · refine ITri.cond (v := false) rfl (fun h => by cases h) (fun _ => ?_); refine ITri.skip ?_
        exact CutQ.mk () trivial (Wk.sub ⟨rfl, rfl, rfl, rfl, rfl, trivial⟩)
      refine ITri.reg pok ?_; simp -implicitDefEqProofs (disch := first | decide | exact of_eq_true (eq_true rfl) | omega | assumption) only [ ↓vcD, vcE, ↓vcG, vcF, evs, evP, evB, intsOf, fillC, Value.cells, pt, Value.oneCell', reduceIte, reduceCtorEq, Nat.reduceEqDiff, Nat.reduceAdd, Nat.reduceMul, Nat.reduceLT, Nat.reduceBEq, Nat.reduceLeDiff, Nat.reduceSub] -- r22
      refine LoopQ.next (t, C1) ⟨by simp only; omega, hCl1, fun j hj hj2 => ?_⟩ (by show t < t + 1; omega) (Wk.sub ⟨rfl, rfl, rfl, rfl, rfl, trivial⟩)
      simp only at hj hj2 ⊢
      obtain rfl : j = t := by omega
      rw [Nat.sub_self]
      exact hC1k
    · have z0 : ((t : Int) < N) := by omega
      have hkp : (t : Int) + 1 = ((t + 1 : Nat) : Int) := by omega
      have gb := takeK (xs := C1) (i := t + 1) (by omega)
      rw [hC1j (t + 1) (by omega) (by omega)] at gb
      obtain ⟨q, hq⟩ : ∃ q, N - (t + 1) = q := ⟨_, rfl⟩
      have hq2 : N - t = q + 1 := by omega
      have hq3 : N - (q + 1) = t := by omega
      rw [hq] at gb
      have bz : -200000000 ≤ (fvF Z g s N q).l ∧ (fvF Z g s N q).l ≤ 1000000 ∧ 0 ≤ (fvF Z g s N q).h ∧ (fvF Z g s N q).h ≤ 201000000 := (hf1 q (by omega)).bd H (by omega) (by omega)
      have ebv : fvF Z g s N (q + 1) = (nth Z (N - (q + 1))).meet ((fvF Z g s N q).later s g) := rfl
      rw [hq3] at ebv
      have F1 := fun {h : AH} h0 => later_f (fvF Z g s N q) s g ⟨by omega, by omega, by omega, by omega⟩ hgs.2 hgs.1 (h := h) h0
      have F2 := fun {h : AH} h0 => meet_f (nth Z t) ((fvF Z g s N q).later s g) (h := h) h0
      rw [← ebv] at F2
      have hw2' : writeAt (rows eK C1) (t * 3) [I6 (fvF Z g s N (q + 1)).l, I6 (fvF Z g s N (q + 1)).h, .bool (fvF Z g s N (q + 1)).s] = rows eK (C1.set t (fvF Z g s N (q + 1))) := wrK _ (by omega)
      refine ITri.reg pok ?_; simp -implicitDefEqProofs (disch := first | decide | exact of_eq_true (eq_true rfl) | omega | assumption) only [htm, z0, decide_true,  ↓vcD, vcE, ↓vcG, vcF, evs, evP, evB, intsOf, fillC, Value.cells, pt, Value.oneCell', reduceIte, reduceCtorEq, Nat.reduceEqDiff, Nat.reduceAdd, Nat.reduceMul, Nat.reduceLT, Nat.reduceBEq, Nat.reduceLeDiff, Nat.reduceSub] -- r24
      refine ITri.cut (fun _ : Unit => [(2, pt 4), (3, pt 5), (9, slN 6 (N + 1)), (12, pt 9), (14, .int .i64 (t : Nat))]) (fun _ => []) (fun _ => Hp 4 [none, some (.cells ⟨rows eT T, 0, false⟩), some (.cells ⟨rows eM S, 0, false⟩), some (.cells ⟨rows eII X, 0, false⟩), some (.cells ⟨rows eI ps, 1, false⟩), some (.cells ⟨[sO 1 nT, I6 N, sO 2 nS, sO 3 nX], 1, false⟩), knO Z, knO B, knO (C1.set t (fvF Z g s N (q + 1))), chO ps (slN 7 (N + 1)) (slN 8 (N + 1))]) (fun _ => True) ?_ (fun _ _ => ?_)
      · refine ITri.cond (v := true) rfl (fun _ => ?_) (fun h => by cases h)
        refine ITri.draw pok ?_; simp -implicitDefEqProofs (disch := first | decide | exact of_eq_true (eq_true rfl) | omega | assumption) only [hcu, hcv, gz, gb, hkp, Int.toNat_natCast, g110, g111, hgg, hss, hnn, true_and,  ↓vcD, vcE, ↓vcG, vcF, evs, evP, evB, intsOf, fillC, Value.cells, pt, Value.oneCell', reduceIte, reduceCtorEq, Nat.reduceEqDiff, Nat.reduceAdd, Nat.reduceMul, Nat.reduceLT, Nat.reduceBEq, Nat.reduceLeDiff, Nat.reduceSub] -- r25
        refine ⟨_, _, F1 (sees0 rfl (of_decide_eq_true rfl)), ?_⟩
        simp -implicitDefEqProofs (disch := first | decide | exact of_eq_true (eq_true rfl) | omega | assumption) only [hcu, hcv, gz, gb, hkp, Int.toNat_natCast, hnn, true_and,  ↓vcD, vcE, ↓vcG, vcF, evs, evP, evB, intsOf, fillC, Value.cells, pt, Value.oneCell', reduceIte, reduceCtorEq, Nat.reduceEqDiff, Nat.reduceAdd, Nat.reduceMul, Nat.reduceLT, Nat.reduceBEq, Nat.reduceLeDiff, Nat.reduceSub]
        refine ⟨_, _, F2 (sees0 rfl (of_decide_eq_true rfl)), ?_⟩
        simp -implicitDefEqProofs (disch := first | decide | exact of_eq_true (eq_true rfl) | omega | assumption) only [hcu, hcv, hw2', hC1r, Int.toNat_natCast, hnn, true_and,  ↓vcD, vcE, ↓vcG, vcF, evs, evP, evB, intsOf, fillC, Value.cells, pt, Value.oneCell', reduceIte, reduceCtorEq, Nat.reduceEqDiff, Nat.reduceAdd, Nat.reduceMul, Nat.reduceLT, Nat.reduceBEq, Nat.reduceLeDiff, Nat.reduceSub]
        exact CutQ.mk () trivial (Wk.sub ⟨rfl, rfl, rfl, rfl, rfl, trivial⟩)
      refine ITri.reg pok ?_; simp -implicitDefEqProofs (disch := first | decide | exact of_eq_true (eq_true rfl) | omega | assumption) only [ ↓vcD, vcE, ↓vcG, vcF, evs, evP, evB, intsOf, fillC, Value.cells, pt, Value.oneCell', reduceIte, reduceCtorEq, Nat.reduceEqDiff, Nat.reduceAdd, Nat.reduceMul, Nat.reduceLT, Nat.reduceBEq, Nat.reduceLeDiff, Nat.reduceSub] -- r22
      refine LoopQ.next (t, C1.set t (fvF Z g s N (q + 1))) ⟨by simp only; omega, by rw [List.length_set]; exact hCl1, fun j hj hj2 => ?_⟩ (by show t < t + 1; omega) (Wk.sub ⟨rfl, rfl, rfl, rfl, rfl, trivial⟩)
      simp only at hj hj2 ⊢
      by_cases c : j = t
      · rw [c, nth_set _ (by omega), hq2]
      · rw [nth_set_ne _ (by omega)]; exact hC1j j (by omega) hj2
  refine ITri.exit ?_; try simp -implicitDefEqProofs (disch := first | decide | exact of_eq_true (eq_true rfl) | omega | assumption) only [ ↓vcD, vcE, ↓vcG, vcF, evs, evP, evB, intsOf, fillC, Value.cells, pt, Value.oneCell', reduceIte, reduceCtorEq, Nat.reduceEqDiff, Nat.reduceAdd, Nat.reduceMul, Nat.reduceLT, Nat.reduceBEq, Nat.reduceLeDiff, Nat.reduceSub] -- exit 4
  obtain rfl : u = 0 := by omega
  have hFL : (List.range (N + 1)).map (fun t => fvF Z g s N (N - t)) = C := ext_nth (by rw [List.length_map, List.length_range, hCl]) fun i hi => by
    rw [List.length_map, List.length_range] at hi
    rw [nth_map_range _ hi, hCv i (by omega) hi]
  rw [hFL]
  clear hFL
  refine ITri.seq ?_
  refine ITri.reg pok ?_; simp -implicitDefEqProofs (disch := first | decide | exact of_eq_true (eq_true rfl) | omega | assumption) only [ ↓vcD, vcE, ↓vcG, vcF, evs, evP, evB, intsOf, fillC, Value.cells, pt, Value.oneCell', reduceIte, reduceCtorEq, Nat.reduceEqDiff, Nat.reduceAdd, Nat.reduceMul, Nat.reduceLT, Nat.reduceBEq, Nat.reduceLeDiff, Nat.reduceSub] -- r26
  have hend : ITri Try.prog 148 none 4 .ret [(4, pt 4), (5, I6 0)] [] (Hp 4 [none, some (.cells ⟨rows eT T, 0, false⟩), some (.cells ⟨rows eM S, 0, false⟩), some (.cells ⟨rows eII X, 0, false⟩), chO ps (slN 5 (N + 1)) (slN 6 (N + 1)), knO B, knO C]) (EndX Try.prog [.tmp 4, .tmp 5] (.tuple #[pt 4, I6 0]) (Hp 4 [none, some (.cells ⟨rows eT T, 0, false⟩), some (.cells ⟨rows eM S, 0, false⟩), some (.cells ⟨rows eII X, 0, false⟩), chO ps (slN 5 (N + 1)) (slN 6 (N + 1)), knO B, knO C])) := by
    refine ITri.ret ?_
    exact EndX.mk (vs := [pt 4, I6 0]) (by simp) (by rfl) (by rfl) (by rfl)
  exact (fun W => ITri.weak W hend) (Wk.gc [0, 1, 2, 3, 9, 7, 8] [] (of_decide_eq_true rfl) (of_decide_eq_true rfl) rfl rfl (of_decide_eq_true rfl) rfl rfl (by repeat (first | exact xiOK_nil | refine xiOK_cons (by first | trivial | exact roomOK _ (by decide)) ?_)) rfl (by simp -implicitDefEqProofs (disch := first | decide | exact of_eq_true (eq_true rfl) | omega | assumption) only [cmv, cok, objOK, sgL, xiL, objAt, nilO, OM, mvL, mv, mvS, okS, okP, mvL_rows, okML, okM, okML_rows, List.getElem?_cons_zero, Option.getD_some, implies_true, imp_self, ne_eq, and_self, true_or, or_true, Nat.zero_mul, Nat.sub_self, openB_self, ↓vcD, vcE, ↓vcG, vcF, evs, evP, evB, intsOf, fillC, Value.cells, pt, Value.oneCell', reduceIte, reduceCtorEq, Nat.reduceEqDiff, Nat.reduceAdd, Nat.reduceMul, Nat.reduceLT, Nat.reduceBEq, Nat.reduceLeDiff, Nat.reduceSub]) (by simp -implicitDefEqProofs (disch := first | decide | exact of_eq_true (eq_true rfl) | omega | assumption) only [cmv, cok, valOK, sgL, xiL, mv, mvA, mvL, mvS, okS, okP, okM, okMA, okML, Option.getD_some, implies_true, and_self, true_or, or_true, Int.natCast_add, Int.cast_ofNat_Int, Nat.zero_mul, Nat.sub_self, openB_self, ↓vcD, vcE, ↓vcG, vcF, evs, evP, evB, intsOf, fillC, Value.cells, pt, Value.oneCell', reduceIte, reduceCtorEq, Nat.reduceEqDiff, Nat.reduceAdd, Nat.reduceMul, Nat.reduceLT, Nat.reduceBEq, Nat.reduceLeDiff, Nat.reduceSub]) (fun _ h => by cases h) ⟨rfl, fun _ h => by cases h⟩)
end
end Go.Proofs.Yteddklolpcpjaaa
