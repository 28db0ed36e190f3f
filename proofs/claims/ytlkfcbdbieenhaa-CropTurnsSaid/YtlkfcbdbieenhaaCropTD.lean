/-
  Chapter 7, by names: the law CropTurns.
-/
import Derived.Test.YtlkfcbdbieenhaaCropTC
set_option linter.unusedSimpArgs false
set_option linter.unusedVariables false
namespace Go.Proofs.Ytlkfcbdbieenhaa
open Go.RowKit Go.Vm
set_option maxRecDepth 100000
theorem refConf_f (n : Nat) (l : List Tl) (tol : Int) (hn : l.length = n) (hn5 : n ≤ 5) (ht : ∀ i, i < n → smB (nth l i) = true) (h1 : tol ≤ 10) (h0 : 0 ≤ tol) {h : AH} {s : Value} (hs : h.sees 0 = true) (r : Rd h s n (rows eT l)) :
    Fc Try.prog 45 [s, .int .i64 tol, .int .i64 20] h (slC h.next (conF (apart l tol) n n 1)) (h.news (rowC (conF (apart l tol) n n 1))) := by
  have F := fun c => refConf_c n c l tol hn hn5 ht h1 h0
  generalize conF (apart l tol) n n 1 = o at *
  obtain ⟨p, c, rfl, r1, r2⟩ := r
  have F := F c
  rw [show (mT (rows eT l)).news (rowC o) = Hp 2 ([none, some (.cells ⟨rows eT l, 0, false⟩)] ++ (rowC o).map some) from Hq_news _] at F
  refine Fc.frameL F [(0, 0, false), p] ?_ ⟨fr_none hs, fr_rd rfl r1 (rows_no _), trivial⟩ ⟨okM_sl rfl (show 1 < 2 by decide) r1 r2, trivial, trivial, trivial⟩ ?_ ?_ ?_ ?_ ?_
  · cases o <;> rfl
  · cases o with
    | none => exact (by trivial)
    | some js => exact ⟨show 2 < 2 + 1 by decide, trivial⟩
  · intro ob ho
    cases o with
    | none => cases ho
    | some js =>
      simp only [rowC, List.mem_singleton] at ho
      subst ho
      exact okML_noAddr _ _ _ (rows_no _)
  · show mw _ _ :: _ = _
    rw [mw_sl rfl]
    rfl
  · cases o <;> rfl
  · cases o with
    | none => rfl
    | some js =>
      show h.news [.cells ⟨mwL _ (rows eN js), 1, _⟩] = _
      rw [mwL_noAddr _ _ (rows_no _)]
      rfl
theorem conR_le {l : List Tl} {tol : Int} {js : List Int} (h : conR l tol = some js) : ckT l tol = 0 ∧ conF (apart l tol) l.length l.length 1 = some js := by
  unfold conR at h
  split at h
  · rename_i g
    exact ⟨g, h⟩
  · cases h
theorem conF_mem {p : List Int → Bool} {n : Int} {c : List Int} : ∀ d m, conF p n d m = some c → ∃ k, m ≤ k ∧ k < m + d ∧ c ∈ lsM n k 0 ∧ p c = true ∧ ∀ k', m ≤ k' → k' < k → ∀ js ∈ lsM n k' 0, p js = false
  | 0, m, h => by cases h
  | d + 1, m, h => by
    unfold conF at h
    cases e : (lsM n m 0).find? p with
    | some x =>
      rw [e] at h
      cases h
      exact ⟨m, Nat.le_refl _, by omega, List.mem_of_find?_eq_some e, List.find?_some e, fun k' h1 h2 => by omega⟩
    | none =>
      rw [e] at h
      obtain ⟨k, h1, h2, h3, h4, h5⟩ := conF_mem d (m + 1) h
      refine ⟨k, by omega, by omega, h3, h4, fun k' q1 q2 js hj => ?_⟩
      by_cases q : k' = m
      · subst q
        have := List.find?_eq_none.1 e js hj
        simpa using this
      · exact h5 k' (by omega) q2 js hj
/-- The error that the law wants, round by round. -/
def w1F (n : Nat) : Int := if 10 < n then 5 else if n = 0 then 2 else 0
def wkF (l : List Tl) (k : Nat) : Int := if w1F l.length = 0 ∧ (l.take k).any (fun t => !tltB t) = true then 2 else w1F l.length
theorem wk_ck (l : List Tl) (tol : Int) : ckT l tol = if wkF l l.length = 0 ∧ (tol < 0 ∨ 36000 < tol) then 3 else wkF l l.length := by
  unfold ckT wkF w1F inT
  rw [List.take_of_length_le (Nat.le_refl _)]
  by_cases h1 : 10 < l.length
  · simp [h1]
  · by_cases h2 : l.length = 0
    · simp [h2]
    · by_cases h3 : l.any (fun t => !tltB t) = true
      · simp only [h1, h2, h3, if_false, if_true, or_true, true_and, true_or]
        simp
      · have h3' : l.any (fun t => !tltB t) = false := by simpa using h3
        simp only [h1, h2, h3', if_false, Bool.false_eq_true, or_self, and_false, true_and, Bool.and_eq_true, decide_eq_true_eq]
        by_cases h4 : 0 ≤ tol ∧ tol ≤ 36000
        · rw [if_pos h4, if_neg (by omega)]
        · rw [if_neg h4, if_pos (by omega)]
theorem wk_succ {l : List Tl} {k : Nat} (hk : k < l.length) : wkF l (k + 1) = if wkF l k = 0 ∧ tltB (nth l k) = false then 2 else wkF l k := by
  have e : (l.take (k + 1)).any (fun t => !tltB t) = ((l.take k).any (fun t => !tltB t) || !tltB (nth l k)) := by
    rw [List.take_add_one, get_nth hk, List.any_append]
    simp
  unfold wkF
  rw [e]
  cases (l.take k).any (fun t => !tltB t) <;> cases tltB (nth l k) <;> by_cases h : w1F l.length = 0 <;> simp [h]
/- boule/boulelaw07.CropTurns · slots 264 · names 0:x 1:t 2:x 3:t 5:r 6:e 7:far 8:want 9:a 10:f 11:l 12:g 13:want 14:i 15:all 16:i 17:s 18:ok · results [4] -/
def ir10_r0 : IC := .reg [⟨some 2, none, false, .box (.t 0)⟩,
  ⟨some 3, none, false, .box (.t 1)⟩,
  ⟨some 4, none, false, .mv (.k (.bool false))⟩] (some [2, 3])
def ir10_r1 : IC := .reg [⟨some 19, none, false, .fad 0 (.t 2)⟩,
  ⟨some 20, none, false, .ldc (.t 19)⟩,
  ⟨some 21, none, false, .len (.t 20)⟩,
  ⟨some 22, none, false, .cmp .gtr (.t 21) (.k (.int .i64 12))⟩] (some [2, 3, 22])
def ir10_r2 : IC := .reg [⟨some 23, none, false, .call (.f 14) []⟩,
  ⟨some 4, none, false, .mv (.t 23)⟩] (some [4])
def ir10_1 : IC := .seq ir10_r2 .ret
def ir10_2 : IC := .cond (.t 22) ir10_1 .skip
def ir10_3 : IC := .seq ir10_r1 ir10_2
def ir10_r3 : IC := .reg [⟨some 25, none, false, .lda 4 (.t 3)⟩,
  ⟨some 26, none, false, .fad 2 (.t 2)⟩,
  ⟨some 27, none, false, .lda 2 (.t 26)⟩,
  ⟨some 28, none, false, .call (.f 36) [(.t 25), (.t 27)]⟩,
  ⟨some 24, none, false, .mv (.t 28)⟩,
  ⟨some 29, none, false, .ext (.t 24) 0⟩,
  ⟨some 30, none, false, .ext (.t 24) 1⟩,
  ⟨some 5, none, false, .alloc [(.int .i64 0), (.int .i64 0)]⟩,
  ⟨none, none, false, .st 2 (.t 5) (.t 29)⟩,
  ⟨some 6, none, false, .mv (.t 30)⟩] (some [2, 3, 5, 6])
def ir10_r4 : IC := .reg [⟨some 31, none, false, .fad 2 (.t 2)⟩,
  ⟨some 32, none, false, .fad 0 (.t 31)⟩,
  ⟨some 33, none, false, .ldc (.t 32)⟩,
  ⟨some 34, none, false, .cmp .lss (.t 33) (.k (.int .i64 (-144000)))⟩,
  ⟨some 35, none, false, .mv (.t 34)⟩,
  ⟨some 36, some (35, false), false, .fad 2 (.t 2)⟩,
  ⟨some 37, some (35, false), false, .fad 0 (.t 36)⟩,
  ⟨some 38, some (35, false), false, .ldc (.t 37)⟩,
  ⟨some 39, some (35, false), false, .cmp .gtr (.t 38) (.k (.int .i64 144000))⟩,
  ⟨some 40, none, false, .pick (.t 35) (.k (.bool true)) (.t 39)⟩,
  ⟨some 41, none, false, .mv (.t 40)⟩,
  ⟨some 42, some (41, false), false, .fad 2 (.t 2)⟩,
  ⟨some 43, some (41, false), false, .fad 1 (.t 42)⟩,
  ⟨some 44, some (41, false), false, .ldc (.t 43)⟩,
  ⟨some 45, some (41, false), false, .cmp .lss (.t 44) (.k (.int .i64 (-144000)))⟩,
  ⟨some 46, none, false, .pick (.t 41) (.k (.bool true)) (.t 45)⟩,
  ⟨some 47, none, false, .mv (.t 46)⟩,
  ⟨some 48, some (47, false), false, .fad 2 (.t 2)⟩,
  ⟨some 49, some (47, false), false, .fad 1 (.t 48)⟩,
  ⟨some 50, some (47, false), false, .ldc (.t 49)⟩,
  ⟨some 51, some (47, false), false, .cmp .gtr (.t 50) (.k (.int .i64 144000))⟩,
  ⟨some 52, none, false, .pick (.t 47) (.k (.bool true)) (.t 51)⟩,
  ⟨some 7, none, false, .mv (.t 52)⟩] (some [2, 3, 5, 6, 7])
def ir10_r8 : IC := .reg [⟨some 88, none, false, .lda 4 (.t 3)⟩,
  ⟨some 89, none, false, .call (.f 37) [(.t 88)]⟩,
  ⟨some 90, none, false, .not (.t 89)⟩,
  ⟨some 87, none, false, .mv (.t 90)⟩] (some [2, 3, 5, 6, 7, 87])
def ir10_r9 : IC := .reg [⟨some 91, none, false, .mv (.t 6)⟩,
  ⟨some 92, none, false, .cmp .neq (.t 91) (.k (.int .i64 2))⟩,
  ⟨some 93, none, false, .mv (.t 92)⟩,
  ⟨some 94, some (93, false), false, .lda 2 (.t 5)⟩,
  ⟨some 95, some (93, false), false, .bld [(.int .i64 0), (.int .i64 0)] []⟩,
  ⟨some 96, some (93, false), false, .eqs true [false, false] (.t 94) (.t 95)⟩,
  ⟨some 97, none, false, .pick (.t 93) (.k (.bool true)) (.t 96)⟩] (some [2, 97])
def ir10_r10 : IC := .reg [⟨some 4, none, false, .mv (.k (.bool false))⟩] (some [4])
def ir10_4 : IC := .seq ir10_r10 .ret
def ir10_5 : IC := .cond (.t 97) ir10_4 .skip
def ir10_6 : IC := .seq ir10_r9 ir10_5
def ir10_r11 : IC := .reg [⟨some 99, none, false, .mv (.t 7)⟩,
  ⟨some 98, none, false, .mv (.t 99)⟩] (some [2, 3, 5, 6, 98])
def ir10_r12 : IC := .reg [⟨some 100, none, false, .mv (.t 6)⟩,
  ⟨some 101, none, false, .cmp .neq (.t 100) (.k (.int .i64 3))⟩,
  ⟨some 102, none, false, .mv (.t 101)⟩,
  ⟨some 103, some (102, false), false, .lda 2 (.t 5)⟩,
  ⟨some 104, some (102, false), false, .bld [(.int .i64 0), (.int .i64 0)] []⟩,
  ⟨some 105, some (102, false), false, .eqs true [false, false] (.t 103) (.t 104)⟩,
  ⟨some 106, none, false, .pick (.t 102) (.k (.bool true)) (.t 105)⟩] (some [2, 106])
def ir10_r13 : IC := .reg [⟨some 4, none, false, .mv (.k (.bool false))⟩] (some [4])
def ir10_7 : IC := .seq ir10_r13 .ret
def ir10_8 : IC := .cond (.t 106) ir10_7 .skip
def ir10_9 : IC := .seq ir10_r12 ir10_8
def ir10_r5 : IC := .draw [(⟨some 53, none, false, .fad 0 (.t 3)⟩, false, 0, 0),
  (⟨some 54, none, false, .lda 2 (.t 53)⟩, false, 1, 1),
  (⟨some 55, none, false, .fad 2 (.t 2)⟩, false, 0, 0),
  (⟨some 56, none, false, .fad 0 (.t 55)⟩, false, 4, 0),
  (⟨some 57, none, false, .ldc (.t 56)⟩, false, 12, 2),
  (⟨some 58, none, false, .call (.f 38) [(.t 54), (.t 57)]⟩, false, 31, 1),
  (⟨some 59, none, false, .fad 2 (.t 3)⟩, false, 0, 0),
  (⟨some 60, none, false, .lda 2 (.t 59)⟩, false, 64, 32),
  (⟨some 61, none, false, .fad 2 (.t 2)⟩, false, 0, 0),
  (⟨some 62, none, false, .fad 1 (.t 61)⟩, false, 256, 0),
  (⟨some 63, none, false, .ldc (.t 62)⟩, false, 768, 96),
  (⟨some 64, none, false, .call (.f 38) [(.t 60), (.t 63)]⟩, false, 2047, 1),
  (⟨some 65, none, false, .ar .add (.t 58) (.t 64)⟩, false, 4095, 0),
  (⟨some 66, none, false, .fad 0 (.t 3)⟩, false, 0, 0),
  (⟨some 67, none, false, .lda 2 (.t 66)⟩, false, 8192, 2048),
  (⟨some 68, none, false, .fad 2 (.t 2)⟩, false, 0, 0),
  (⟨some 69, none, false, .fad 0 (.t 68)⟩, false, 32768, 0),
  (⟨some 70, none, false, .ldc (.t 69)⟩, false, 98304, 10240),
  (⟨some 71, none, false, .call (.f 39) [(.t 67), (.t 70)]⟩, false, 258047, 1),
  (⟨some 72, none, false, .fad 2 (.t 3)⟩, false, 0, 0),
  (⟨some 73, none, false, .lda 2 (.t 72)⟩, false, 524288, 258048),
  (⟨some 74, none, false, .fad 2 (.t 2)⟩, false, 0, 0),
  (⟨some 75, none, false, .fad 1 (.t 74)⟩, false, 2097152, 0),
  (⟨some 76, none, false, .ldc (.t 75)⟩, false, 6291456, 782336),
  (⟨some 77, none, false, .call (.f 39) [(.t 73), (.t 76)]⟩, false, 16773119, 1),
  (⟨some 78, none, false, .ar .add (.t 71) (.t 77)⟩, false, 33550335, 0),
  (⟨some 79, none, false, .bld [(.int .i64 0), (.int .i64 0)] [(0, 1, (.t 65)), (1, 1, (.t 78))]⟩, false, 67108863, 0),
  (⟨some 8, none, false, .alloc [(.int .i64 0), (.int .i64 0)]⟩, false, 0, 16773120),
  (⟨none, none, false, .st 2 (.t 8) (.t 79)⟩, true, 268435455, 1)] (some [2, 5, 6, 8])
def ir10_r6 : IC := .reg [⟨some 80, none, false, .mv (.t 6)⟩,
  ⟨some 81, none, false, .cmp .neq (.t 80) (.k (.int .i64 0))⟩,
  ⟨some 82, none, false, .mv (.t 81)⟩,
  ⟨some 83, some (82, false), false, .lda 2 (.t 5)⟩,
  ⟨some 84, some (82, false), false, .lda 2 (.t 8)⟩,
  ⟨some 85, some (82, false), false, .eqs true [false, false] (.t 83) (.t 84)⟩,
  ⟨some 86, none, false, .pick (.t 82) (.k (.bool true)) (.t 85)⟩] (some [2, 86])
def ir10_r7 : IC := .reg [⟨some 4, none, false, .mv (.k (.bool false))⟩] (some [4])
def ir10_10 : IC := .seq ir10_r7 .ret
def ir10_11 : IC := .cond (.t 86) ir10_10 .skip
def ir10_12 : IC := .seq ir10_r6 ir10_11
def ir10_13 : IC := .seq ir10_r5 ir10_12
def ir10_14 : IC := .cond (.t 98) ir10_9 ir10_13
def ir10_15 : IC := .seq ir10_r11 ir10_14
def ir10_16 : IC := .cond (.t 87) ir10_6 ir10_15
def ir10_17 : IC := .seq ir10_r8 ir10_16
def ir10_18 : IC := .block 0 ir10_17
def ir10_r14 : IC := .draw [(⟨some 108, none, false, .bsl 4 0 [] []⟩, false, 0, 1),
  (⟨some 109, none, false, .fad 0 (.t 2)⟩, false, 0, 0),
  (⟨some 110, none, false, .ldc (.t 109)⟩, false, 2, 1),
  (⟨some 111, none, false, .app 4 32 (.t 108) (.t 110)⟩, false, 7, 1),
  (⟨some 112, none, false, .fad 1 (.t 2)⟩, false, 0, 0),
  (⟨some 113, none, false, .ldc (.t 112)⟩, false, 16, 8),
  (⟨some 114, none, false, .call (.f 40) [(.t 111), (.t 113)]⟩, false, 63, 1),
  (⟨some 107, none, false, .mv (.t 114)⟩, false, 127, 0),
  (⟨some 115, none, false, .ext (.t 107) 0⟩, false, 255, 0),
  (⟨some 116, none, false, .ext (.t 107) 1⟩, false, 255, 0),
  (⟨some 9, none, false, .alloc [(.int .i64 0), (.int .i64 0)]⟩, false, 0, 64),
  (⟨none, none, false, .st 2 (.t 9) (.t 115)⟩, true, 1535, 1),
  (⟨some 10, none, false, .mv (.t 116)⟩, false, 4095, 0)] (some [2, 9, 10])
def ir10_r15 : IC := .draw [(⟨some 118, none, false, .bsl 4 0 [] []⟩, false, 0, 1),
  (⟨some 119, none, false, .fad 0 (.t 2)⟩, false, 0, 0),
  (⟨some 120, none, false, .ldc (.t 119)⟩, false, 2, 1),
  (⟨some 121, none, false, .app 4 32 (.t 118) (.t 120)⟩, false, 7, 1),
  (⟨some 122, none, false, .fad 1 (.t 2)⟩, false, 0, 0),
  (⟨some 123, none, false, .ldc (.t 122)⟩, false, 16, 8),
  (⟨some 124, none, false, .call (.f 41) [(.t 121), (.t 123)]⟩, true, 63, 1),
  (⟨some 117, none, false, .mv (.t 124)⟩, false, 127, 0),
  (⟨some 125, none, false, .ext (.t 117) 0⟩, false, 255, 0),
  (⟨some 126, none, false, .ext (.t 117) 1⟩, false, 255, 0),
  (⟨some 11, none, false, .mv (.t 125)⟩, false, 511, 0),
  (⟨some 12, none, false, .mv (.t 126)⟩, false, 2047, 0)] (some [2, 9, 10, 11, 12])
def ir10_r16 : IC := .reg [⟨some 13, none, false, .mv (.k (.int .i64 0))⟩] (some [2, 9, 10, 11, 12, 13])
def ir10_r17 : IC := .reg [⟨some 128, none, false, .fad 0 (.t 2)⟩,
  ⟨some 129, none, false, .ldc (.t 128)⟩,
  ⟨some 130, none, false, .len (.t 129)⟩,
  ⟨some 131, none, false, .cmp .gtr (.t 130) (.k (.int .i64 10))⟩,
  ⟨some 127, none, false, .mv (.t 131)⟩] (some [2, 9, 10, 11, 12, 13, 127])
def ir10_r18 : IC := .reg [⟨some 13, none, false, .mv (.k (.int .i64 5))⟩] (some [2, 9, 10, 11, 12, 13])
def ir10_r19 : IC := .reg [⟨some 133, none, false, .fad 0 (.t 2)⟩,
  ⟨some 134, none, false, .ldc (.t 133)⟩,
  ⟨some 135, none, false, .len (.t 134)⟩,
  ⟨some 136, none, false, .cmp .eql (.t 135) (.k (.int .i64 0))⟩,
  ⟨some 132, none, false, .mv (.t 136)⟩] (some [2, 9, 10, 11, 12, 13, 132])
def ir10_r20 : IC := .reg [⟨some 13, none, false, .mv (.k (.int .i64 2))⟩] (some [2, 9, 10, 11, 12, 13])
def ir10_19 : IC := .cond (.t 132) ir10_r20 .skip
def ir10_20 : IC := .seq ir10_r19 ir10_19
def ir10_21 : IC := .cond (.t 127) ir10_r18 ir10_20
def ir10_22 : IC := .seq ir10_r17 ir10_21
def ir10_23 : IC := .block 1 ir10_22
def ir10_r21 : IC := .reg [⟨some 14, none, false, .mv (.k (.int .i64 0))⟩] (some [2, 9, 10, 11, 12, 13, 14])
def ir10_r22 : IC := .reg [⟨some 137, none, false, .mv (.t 14)⟩,
  ⟨some 138, none, false, .fad 0 (.t 2)⟩,
  ⟨some 139, none, false, .ldc (.t 138)⟩,
  ⟨some 140, none, false, .len (.t 139)⟩,
  ⟨some 141, none, false, .cmp .lss (.t 137) (.t 140)⟩] (some [2, 9, 10, 11, 12, 13, 14, 141])
def ir10_24 : IC := .cond (.t 141) .skip (.exit 2)
def ir10_25 : IC := .seq ir10_r22 ir10_24
def ir10_r24 : IC := .reg [⟨some 144, none, false, .mv (.t 13)⟩,
  ⟨some 145, none, false, .cmp .eql (.t 144) (.k (.int .i64 0))⟩,
  ⟨some 146, none, false, .mv (.t 145)⟩,
  ⟨some 147, some (146, true), false, .fad 0 (.t 2)⟩,
  ⟨some 148, some (146, true), false, .ldc (.t 147)⟩,
  ⟨some 149, some (146, true), false, .mv (.t 14)⟩,
  ⟨some 150, some (146, true), false, .iad 4 (.t 148) (.t 149)⟩,
  ⟨some 151, some (146, true), false, .lda 4 (.t 150)⟩,
  ⟨some 152, some (146, true), false, .call (.f 37) [(.t 151)]⟩,
  ⟨some 153, some (146, true), false, .not (.t 152)⟩,
  ⟨some 154, none, false, .pick (.t 146) (.t 153) (.k (.bool false))⟩] (some [2, 9, 10, 11, 12, 13, 14, 154])
def ir10_r25 : IC := .reg [⟨some 13, none, false, .mv (.k (.int .i64 2))⟩] (some [2, 9, 10, 11, 12, 13, 14])
def ir10_26 : IC := .cond (.t 154) ir10_r25 .skip
def ir10_27 : IC := .seq ir10_r24 ir10_26
def ir10_28 : IC := .block 3 ir10_27
def ir10_r23 : IC := .reg [⟨some 142, none, false, .mv (.t 14)⟩,
  ⟨some 143, none, false, .ar .add (.t 142) (.k (.int .i64 1))⟩,
  ⟨some 14, none, false, .mv (.t 143)⟩] (some [2, 9, 10, 11, 12, 13, 14])
def ir10_29 : IC := .seq ir10_28 ir10_r23
def ir10_30 : IC := .seq ir10_25 ir10_29
def ir10_31 : IC := .loop ir10_30
def ir10_32 : IC := .block 2 ir10_31
def ir10_33 : IC := .seq ir10_r21 ir10_32
def ir10_r26 : IC := .reg [⟨some 155, none, false, .mv (.t 13)⟩,
  ⟨some 156, none, false, .cmp .eql (.t 155) (.k (.int .i64 0))⟩,
  ⟨some 157, none, false, .mv (.t 156)⟩,
  ⟨some 158, some (157, true), false, .fad 1 (.t 2)⟩,
  ⟨some 159, some (157, true), false, .ldc (.t 158)⟩,
  ⟨some 160, some (157, true), false, .cmp .lss (.t 159) (.k (.int .i64 0))⟩,
  ⟨some 161, some (157, true), false, .mv (.t 160)⟩,
  ⟨some 162, some (161, false), false, .fad 1 (.t 2)⟩,
  ⟨some 163, some (161, false), false, .ldc (.t 162)⟩,
  ⟨some 164, some (161, false), false, .cmp .gtr (.t 163) (.k (.int .i64 36000))⟩,
  ⟨some 165, some (157, true), false, .pick (.t 161) (.k (.bool true)) (.t 164)⟩,
  ⟨some 166, none, false, .pick (.t 157) (.t 165) (.k (.bool false))⟩] (some [2, 9, 10, 11, 12, 13, 166])
def ir10_r27 : IC := .reg [⟨some 13, none, false, .mv (.k (.int .i64 3))⟩] (some [2, 9, 10, 11, 12, 13])
def ir10_34 : IC := .cond (.t 166) ir10_r27 .skip
def ir10_35 : IC := .seq ir10_r26 ir10_34
def ir10_r28 : IC := .reg [⟨some 167, none, false, .mv (.t 13)⟩,
  ⟨some 168, none, false, .cmp .neq (.t 167) (.k (.int .i64 0))⟩] (some [2, 9, 10, 11, 12, 13, 168])
def ir10_r29 : IC := .reg [⟨some 169, none, false, .mv (.t 10)⟩,
  ⟨some 170, none, false, .mv (.t 13)⟩,
  ⟨some 171, none, false, .cmp .eql (.t 169) (.t 170)⟩,
  ⟨some 172, none, false, .mv (.t 171)⟩,
  ⟨some 173, some (172, true), false, .mv (.t 12)⟩,
  ⟨some 174, some (172, true), false, .mv (.t 13)⟩,
  ⟨some 175, some (172, true), false, .cmp .eql (.t 173) (.t 174)⟩,
  ⟨some 176, none, false, .pick (.t 172) (.t 175) (.k (.bool false))⟩,
  ⟨some 177, none, false, .mv (.t 176)⟩,
  ⟨some 178, some (177, true), false, .lda 2 (.t 9)⟩,
  ⟨some 179, some (177, true), false, .bld [(.int .i64 0), (.int .i64 0)] []⟩,
  ⟨some 180, some (177, true), false, .eqs false [false, false] (.t 178) (.t 179)⟩,
  ⟨some 181, none, false, .pick (.t 177) (.t 180) (.k (.bool false))⟩,
  ⟨some 182, none, false, .mv (.t 181)⟩,
  ⟨some 183, some (182, true), false, .mv (.t 11)⟩,
  ⟨some 184, some (182, true), false, .len (.t 183)⟩,
  ⟨some 185, some (182, true), false, .cmp .eql (.t 184) (.k (.int .i64 0))⟩,
  ⟨some 186, none, false, .pick (.t 182) (.t 185) (.k (.bool false))⟩,
  ⟨some 187, none, false, .mv (.t 186)⟩,
  ⟨some 188, some (187, true), false, .call (.f 14) []⟩,
  ⟨some 189, none, false, .pick (.t 187) (.t 188) (.k (.bool false))⟩,
  ⟨some 4, none, false, .mv (.t 189)⟩] (some [4])
def ir10_36 : IC := .seq ir10_r29 .ret
def ir10_37 : IC := .cond (.t 168) ir10_36 .skip
def ir10_38 : IC := .seq ir10_r28 ir10_37
def ir10_r30 : IC := .reg [⟨some 190, none, false, .lda 4 (.t 2)⟩,
  ⟨some 191, none, false, .call (.f 42) [(.t 190)]⟩,
  ⟨some 192, none, false, .not (.t 191)⟩,
  ⟨some 193, none, false, .mv (.t 192)⟩,
  ⟨some 194, some (193, false), false, .fad 0 (.t 2)⟩,
  ⟨some 195, some (193, false), false, .ldc (.t 194)⟩,
  ⟨some 196, some (193, false), false, .len (.t 195)⟩,
  ⟨some 197, some (193, false), false, .cmp .gtr (.t 196) (.k (.int .i64 5))⟩,
  ⟨some 198, none, false, .pick (.t 193) (.k (.bool true)) (.t 197)⟩] (some [2, 9, 10, 11, 12, 198])
def ir10_r31 : IC := .reg [⟨some 199, none, false, .call (.f 14) []⟩,
  ⟨some 4, none, false, .mv (.t 199)⟩] (some [4])
def ir10_39 : IC := .seq ir10_r31 .ret
def ir10_40 : IC := .cond (.t 198) ir10_39 .skip
def ir10_41 : IC := .seq ir10_r30 ir10_40
def ir10_r32 : IC := .reg [⟨some 200, none, false, .bsl 1 0 [] []⟩,
  ⟨some 15, none, false, .mv (.t 200)⟩] (some [2, 9, 10, 11, 12, 15])
def ir10_r33 : IC := .reg [⟨some 16, none, false, .mv (.k (.int .i64 0))⟩] (some [2, 9, 10, 11, 12, 15, 16])
def ir10_r34 : IC := .reg [⟨some 201, none, false, .mv (.t 16)⟩,
  ⟨some 202, none, false, .fad 0 (.t 2)⟩,
  ⟨some 203, none, false, .ldc (.t 202)⟩,
  ⟨some 204, none, false, .len (.t 203)⟩,
  ⟨some 205, none, false, .cmp .lss (.t 201) (.t 204)⟩] (some [2, 9, 10, 11, 12, 15, 16, 205])
def ir10_42 : IC := .cond (.t 205) .skip (.exit 4)
def ir10_43 : IC := .seq ir10_r34 ir10_42
def ir10_r36 : IC := .reg [⟨some 208, none, false, .mv (.t 15)⟩,
  ⟨some 209, none, false, .mv (.t 16)⟩,
  ⟨some 210, none, false, .bsl 1 1 [(.int .i64 0)] [(0, (.t 209))]⟩,
  ⟨some 211, none, false, .app 1 8 (.t 208) (.t 210)⟩,
  ⟨some 15, none, false, .mv (.t 211)⟩] (some [2, 9, 10, 11, 12, 15, 16])
def ir10_44 : IC := .block 5 ir10_r36
def ir10_r35 : IC := .reg [⟨some 206, none, false, .mv (.t 16)⟩,
  ⟨some 207, none, false, .ar .add (.t 206) (.k (.int .i64 1))⟩,
  ⟨some 16, none, false, .mv (.t 207)⟩] (some [2, 9, 10, 11, 12, 15, 16])
def ir10_45 : IC := .seq ir10_44 ir10_r35
def ir10_46 : IC := .seq ir10_43 ir10_45
def ir10_47 : IC := .loop ir10_46
def ir10_48 : IC := .block 4 ir10_47
def ir10_49 : IC := .seq ir10_r33 ir10_48
def ir10_r37 : IC := .reg [⟨some 213, none, false, .fad 0 (.t 2)⟩,
  ⟨some 214, none, false, .ldc (.t 213)⟩,
  ⟨some 215, none, false, .mv (.t 15)⟩,
  ⟨some 216, none, false, .fad 1 (.t 2)⟩,
  ⟨some 217, none, false, .ldc (.t 216)⟩,
  ⟨some 218, none, false, .call (.f 43) [(.t 214), (.t 215), (.t 217), (.k (.int .i64 20))]⟩,
  ⟨some 212, none, false, .mv (.t 218)⟩,
  ⟨some 219, none, false, .ext (.t 212) 0⟩,
  ⟨some 220, none, false, .ext (.t 212) 1⟩,
  ⟨some 17, none, false, .alloc [(.int .i64 0), (.int .i64 0)]⟩,
  ⟨none, none, false, .st 2 (.t 17) (.t 219)⟩,
  ⟨some 18, none, false, .mv (.t 220)⟩] (some [2, 9, 10, 11, 12, 17, 18])
def ir10_r38 : IC := .reg [⟨some 221, none, false, .mv (.t 18)⟩] (some [2, 9, 10, 11, 12, 17, 221])
def ir10_r39 : IC := .reg [⟨some 222, none, false, .mv (.t 10)⟩,
  ⟨some 223, none, false, .cmp .eql (.t 222) (.k (.int .i64 0))⟩,
  ⟨some 224, none, false, .mv (.t 223)⟩,
  ⟨some 225, some (224, true), false, .lda 2 (.t 9)⟩,
  ⟨some 226, some (224, true), false, .lda 2 (.t 17)⟩,
  ⟨some 227, some (224, true), false, .eqs false [false, false] (.t 225) (.t 226)⟩,
  ⟨some 228, none, false, .pick (.t 224) (.t 227) (.k (.bool false))⟩,
  ⟨some 229, none, false, .mv (.t 228)⟩,
  ⟨some 230, some (229, true), false, .mv (.t 12)⟩,
  ⟨some 231, some (229, true), false, .cmp .eql (.t 230) (.k (.int .i64 73))⟩,
  ⟨some 232, none, false, .pick (.t 229) (.t 231) (.k (.bool false))⟩,
  ⟨some 233, none, false, .mv (.t 232)⟩,
  ⟨some 234, some (233, true), false, .mv (.t 11)⟩,
  ⟨some 235, some (233, true), false, .len (.t 234)⟩,
  ⟨some 236, some (233, true), false, .cmp .eql (.t 235) (.k (.int .i64 0))⟩,
  ⟨some 237, none, false, .pick (.t 233) (.t 236) (.k (.bool false))⟩,
  ⟨some 238, none, false, .mv (.t 237)⟩,
  ⟨some 239, some (238, true), false, .call (.f 14) []⟩,
  ⟨some 240, none, false, .pick (.t 238) (.t 239) (.k (.bool false))⟩,
  ⟨some 4, none, false, .mv (.t 240)⟩] (some [4])
def ir10_50 : IC := .seq ir10_r39 .ret
def ir10_51 : IC := .cond (.t 221) ir10_50 .skip
def ir10_52 : IC := .seq ir10_r38 ir10_51
def ir10_r40 : IC := .reg [⟨some 241, none, false, .mv (.t 10)⟩,
  ⟨some 242, none, false, .cmp .eql (.t 241) (.k (.int .i64 72))⟩,
  ⟨some 243, none, false, .mv (.t 242)⟩,
  ⟨some 244, some (243, true), false, .lda 2 (.t 9)⟩,
  ⟨some 245, some (243, true), false, .bld [(.int .i64 0), (.int .i64 0)] []⟩,
  ⟨some 246, some (243, true), false, .eqs false [false, false] (.t 244) (.t 245)⟩,
  ⟨some 247, none, false, .pick (.t 243) (.t 246) (.k (.bool false))⟩,
  ⟨some 248, none, false, .mv (.t 247)⟩,
  ⟨some 249, some (248, true), false, .mv (.t 12)⟩,
  ⟨some 250, some (248, true), false, .cmp .eql (.t 249) (.k (.int .i64 0))⟩,
  ⟨some 251, none, false, .pick (.t 248) (.t 250) (.k (.bool false))⟩,
  ⟨some 252, none, false, .mv (.t 251)⟩,
  ⟨some 253, some (252, true), false, .mv (.t 11)⟩,
  ⟨some 254, some (252, true), false, .fad 0 (.t 2)⟩,
  ⟨some 255, some (252, true), false, .ldc (.t 254)⟩,
  ⟨some 256, some (252, true), false, .fad 1 (.t 2)⟩,
  ⟨some 257, some (252, true), false, .ldc (.t 256)⟩,
  ⟨some 258, some (252, true), false, .call (.f 45) [(.t 255), (.t 257), (.k (.int .i64 20))]⟩,
  ⟨some 259, some (252, true), false, .call (.f 44) [(.t 253), (.t 258)]⟩,
  ⟨some 260, none, false, .pick (.t 252) (.t 259) (.k (.bool false))⟩,
  ⟨some 261, none, false, .mv (.t 260)⟩,
  ⟨some 262, some (261, true), false, .call (.f 14) []⟩,
  ⟨some 263, none, false, .pick (.t 261) (.t 262) (.k (.bool false))⟩,
  ⟨some 4, none, false, .mv (.t 263)⟩] (some [4])
def ir10_53 : IC := .seq ir10_r40 .ret
def ir10_54 : IC := .seq ir10_52 ir10_53
def ir10_55 : IC := .seq ir10_r37 ir10_54
def ir10_56 : IC := .seq ir10_49 ir10_55
def ir10_57 : IC := .seq ir10_r32 ir10_56
def ir10_58 : IC := .seq ir10_41 ir10_57
def ir10_59 : IC := .seq ir10_38 ir10_58
def ir10_60 : IC := .seq ir10_35 ir10_59
def ir10_61 : IC := .seq ir10_33 ir10_60
def ir10_62 : IC := .seq ir10_23 ir10_61
def ir10_63 : IC := .seq ir10_r16 ir10_62
def ir10_64 : IC := .seq ir10_r15 ir10_63
def ir10_65 : IC := .seq ir10_r14 ir10_64
def ir10_66 : IC := .seq ir10_18 ir10_65
def ir10_67 : IC := .seq ir10_r4 ir10_66
def ir10_68 : IC := .seq ir10_r3 ir10_67
def ir10_69 : IC := .seq ir10_3 ir10_68
def ir10_70 : IC := .seq ir10_r0 ir10_69
def ir10 : IC := ir10_70
theorem fn10 : FnIs Try.prog 10 ir10 264 [.tmp 4] := ⟨Try.f10, Try.f10.body.getD .skip, Try.func10, by kernel_rfl, by kernel_rfl, by kernel_rfl, by kernel_rfl⟩
abbrev xV (n c : Nat) (tol sx sy : Int) : List Value := [sT n c, .int .i64 tol, .int .i64 sx, .int .i64 sy]
abbrev m3 (n c : Nat) (l : List Tl) (tol sx sy : Int) (R : List (Option AObj)) : List (Option AObj) := none :: some (.cells ⟨rows eT l, 0, false⟩) :: some (.cells ⟨xV n c tol sx sy, 1, false⟩) :: R
theorem eq_same (a b : Int) : cellsEq [false, false] [.int .i64 a, .int .i64 b] [.int .i64 a, .int .i64 b] = some true := by simp [cellsEq, cellEq]
abbrev m5 (n c : Nat) (l : List Tl) (tol sx sy : Int) (R : List (Option AObj)) : List (Option AObj) := m3 n c l tol sx sy (some (.cells ⟨[.int .i64 (turnF l tol).1, .int .i64 (turnF l tol).2.1], 1, false⟩) :: some (.cells ⟨rows eN ((conR l tol).getD []), 1, true⟩) :: R)
abbrev l5 (l : List Tl) (tol : Int) (R : Fr) : Fr := (2, pt 2) :: (9, pt 3) :: (10, .int .i64 (turnF l tol).2.2) :: (11, .slice (some ⟨4, 0, none⟩) ((conR l tol).getD []).length openB) :: (12, .int .i64 (conE l tol)) :: R
abbrev endT : AEx → Fr → List Nat → AH → Prop := EndR Try.prog [.tmp 4] 2 [] (.bool true)
set_option maxHeartbeats 1000000 in
theorem turns_5 (n c : Nat) (l : List Tl) (tol sx sy : Int) (hn : l.length = n) (hck : ckT l tol = 0) : ITri Try.prog 264 none 2 ir10_58 (l5 l tol []) [] (Hp 2 (m5 n c l tol sx sy [])) endT := by
  obtain ⟨b1, b2, b3, b4, b5⟩ := ck_ok hck
  have etn : turnF l tol = if (firstF (sqL l tol (upN 0 l.length))).2.2 = true then ((firstF (sqL l tol (upN 0 l.length))).1, (firstF (sqL l tol (upN 0 l.length))).2.1, 0) else (0, 0, 72) := if_pos hck
  have ecr : conR l tol = conF (apart l tol) n n 1 := by rw [← hn]; exact if_pos hck
  have ece : conE l tol = if (conR l tol).isSome = true then 0 else 73 := if_pos hck
  have hap : apart l tol (upN 0 n) = !(firstF (sqL l tol (upN 0 l.length))).2.2 := by rw [hn]; rfl
  have hok := con_ok (l := l) (tol := tol) (n := n)
  have hbad := con_bad (l := l) (tol := tol) (n := n) (by omega)
  rw [hap, ← ecr] at hok hbad
  have hcl : ∀ r, conR l tol = some r → r.length ≤ 1000 := fun r h => by
    obtain ⟨k, h1, h2, h3, _⟩ := conF_mem _ _ (conR_le h).2
    rw [(lsM_mem k 0 r h3).1]
    omega
  have hrT := fun hlb h0 h1 {h : AH} {s t : Value} => refTurn_f n l tol n (upN 0 n) hn (upN_len n 0) (by omega) (by omega) (fun j hj => by have := upN_mem.1 hj; omega) hlb h1 h0 (h := h) (s := s) (t := t)
  have hrC := fun h5 hlb h1 h0 {h : AH} {s : Value} => refConf_f n l tol hn h5 hlb h1 h0 (h := h) (s := s)
  rw [← ecr] at hrC
  have hnn : firstF (sqL l tol (upN 0 n)) = firstF (sqL l tol (upN 0 l.length)) := by rw [hn]
  rw [hnn] at hrT
  have m0 : m5 n c l tol sx sy [] = m3 n c l tol sx sy [some (.cells ⟨[.int .i64 (turnF l tol).1, .int .i64 (turnF l tol).2.1], 1, false⟩), some (.cells ⟨rows eN ((conR l tol).getD []), 1, true⟩)] := rfl
  have l0 : l5 l tol [] = [(2, pt 2), (9, pt 3), (10, .int .i64 (turnF l tol).2.2), (11, .slice (some ⟨4, 0, none⟩) ((conR l tol).getD []).length openB), (12, .int .i64 (conE l tol))] := rfl
  rw [m0, l0]
  rw [ece, etn]
  clear m0 l0 ecr etn ece hap hnn
  generalize conR l tol = o at *
  generalize firstF (sqL l tol (upN 0 l.length)) = F at *
  refine ITri.seq ?_
  refine ITri.seq ?_
  refine ITri.reg pokT ?_; simp -implicitDefEqProofs (disch := first | decide | exact of_eq_true (eq_true rfl) | omega | assumption) only [ ↓vcD, vcE, evs, evP, evB, intsOf, fillC, Value.cells, pt, List.append_nil, List.nil_append, List.cons_append, List.length_cons, List.length_nil, List.filter_nil, List.map_nil, ↓List.getElem?_cons_zero, ↓List.getElem?_cons_succ, List.getElem?_cons_zero, List.getElem?_cons_succ, List.set_cons_zero, List.set_cons_succ, Option.join_some, Option.join_none, Option.map_some, List.all_cons, List.all_nil, Value.oneCell', reduceIte, reduceCtorEq, Nat.reduceEqDiff, Nat.reduceAdd, Nat.reduceMul, Nat.reduceLT, Nat.reduceBEq, Nat.reduceLeDiff, Nat.reduceSub, List.size_toArray] -- r30 law.go:264 CALLS .call F42 [%190] GUARDS [193] live [2, 9, 10, 11, 12, 198]
  refine ⟨_, _, little_f n l tol sx sy hn (by omega) (sees0 rfl (of_decide_eq_true rfl)) (Rd.hq rfl rfl), ?_⟩
  cases hl : litB l tol with
  | false =>
    simp -implicitDefEqProofs (disch := first | decide | exact of_eq_true (eq_true rfl) | omega | assumption) only [hl,  ↓vcD, vcE, evs, evP, evB, intsOf, fillC, Value.cells, pt, List.append_nil, List.nil_append, List.cons_append, List.length_cons, List.length_nil, List.filter_nil, List.map_nil, ↓List.getElem?_cons_zero, ↓List.getElem?_cons_succ, List.getElem?_cons_zero, List.getElem?_cons_succ, List.set_cons_zero, List.set_cons_succ, Option.join_some, Option.join_none, Option.map_some, List.all_cons, List.all_nil, Value.oneCell', reduceIte, reduceCtorEq, Nat.reduceEqDiff, Nat.reduceAdd, Nat.reduceMul, Nat.reduceLT, Nat.reduceBEq, Nat.reduceLeDiff, Nat.reduceSub, List.size_toArray]
    refine ITri.cond (v := true) rfl (fun _ => ?_) (fun h => by cases h)
    refine ITri.seq ?_
    refine ITri.reg pokT ?_; simp -implicitDefEqProofs (disch := first | decide | exact of_eq_true (eq_true rfl) | omega | assumption) only [ ↓vcD, vcE, evs, evP, evB, intsOf, fillC, Value.cells, pt, List.append_nil, List.nil_append, List.cons_append, List.length_cons, List.length_nil, List.filter_nil, List.map_nil, ↓List.getElem?_cons_zero, ↓List.getElem?_cons_succ, List.getElem?_cons_zero, List.getElem?_cons_succ, List.set_cons_zero, List.set_cons_succ, Option.join_some, Option.join_none, Option.map_some, List.all_cons, List.all_nil, Value.oneCell', reduceIte, reduceCtorEq, Nat.reduceEqDiff, Nat.reduceAdd, Nat.reduceMul, Nat.reduceLT, Nat.reduceBEq, Nat.reduceLeDiff, Nat.reduceSub, List.size_toArray]
    refine ⟨_, _, knownT, ?_⟩
    try simp -implicitDefEqProofs (disch := first | decide | exact of_eq_true (eq_true rfl) | omega | assumption) only [ ↓vcD, vcE, evs, evP, evB, intsOf, fillC, Value.cells, pt, List.append_nil, List.nil_append, List.cons_append, List.length_cons, List.length_nil, List.filter_nil, List.map_nil, ↓List.getElem?_cons_zero, ↓List.getElem?_cons_succ, List.getElem?_cons_zero, List.getElem?_cons_succ, List.set_cons_zero, List.set_cons_succ, Option.join_some, Option.join_none, Option.map_some, List.all_cons, List.all_nil, Value.oneCell', reduceIte, reduceCtorEq, Nat.reduceEqDiff, Nat.reduceAdd, Nat.reduceMul, Nat.reduceLT, Nat.reduceBEq, Nat.reduceLeDiff, Nat.reduceSub, List.size_toArray]
    refine ITri.ret ?_; exact EndR.plain (by simp) (by rfl) (by rfl) (by rfl)
  | true =>
  by_cases h5 : (5 : Int) < n
  · simp -implicitDefEqProofs (disch := first | decide | exact of_eq_true (eq_true rfl) | omega | assumption) only [hl, h5, decide_true,  ↓vcD, vcE, evs, evP, evB, intsOf, fillC, Value.cells, pt, List.append_nil, List.nil_append, List.cons_append, List.length_cons, List.length_nil, List.filter_nil, List.map_nil, ↓List.getElem?_cons_zero, ↓List.getElem?_cons_succ, List.getElem?_cons_zero, List.getElem?_cons_succ, List.set_cons_zero, List.set_cons_succ, Option.join_some, Option.join_none, Option.map_some, List.all_cons, List.all_nil, Value.oneCell', reduceIte, reduceCtorEq, Nat.reduceEqDiff, Nat.reduceAdd, Nat.reduceMul, Nat.reduceLT, Nat.reduceBEq, Nat.reduceLeDiff, Nat.reduceSub, List.size_toArray]
    refine ITri.cond (v := true) rfl (fun _ => ?_) (fun h => by cases h)
    refine ITri.seq ?_
    refine ITri.reg pokT ?_; simp -implicitDefEqProofs (disch := first | decide | exact of_eq_true (eq_true rfl) | omega | assumption) only [ ↓vcD, vcE, evs, evP, evB, intsOf, fillC, Value.cells, pt, List.append_nil, List.nil_append, List.cons_append, List.length_cons, List.length_nil, List.filter_nil, List.map_nil, ↓List.getElem?_cons_zero, ↓List.getElem?_cons_succ, List.getElem?_cons_zero, List.getElem?_cons_succ, List.set_cons_zero, List.set_cons_succ, Option.join_some, Option.join_none, Option.map_some, List.all_cons, List.all_nil, Value.oneCell', reduceIte, reduceCtorEq, Nat.reduceEqDiff, Nat.reduceAdd, Nat.reduceMul, Nat.reduceLT, Nat.reduceBEq, Nat.reduceLeDiff, Nat.reduceSub, List.size_toArray]
    refine ⟨_, _, knownT, ?_⟩
    try simp -implicitDefEqProofs (disch := first | decide | exact of_eq_true (eq_true rfl) | omega | assumption) only [ ↓vcD, vcE, evs, evP, evB, intsOf, fillC, Value.cells, pt, List.append_nil, List.nil_append, List.cons_append, List.length_cons, List.length_nil, List.filter_nil, List.map_nil, ↓List.getElem?_cons_zero, ↓List.getElem?_cons_succ, List.getElem?_cons_zero, List.getElem?_cons_succ, List.set_cons_zero, List.set_cons_succ, Option.join_some, Option.join_none, Option.map_some, List.all_cons, List.all_nil, Value.oneCell', reduceIte, reduceCtorEq, Nat.reduceEqDiff, Nat.reduceAdd, Nat.reduceMul, Nat.reduceLT, Nat.reduceBEq, Nat.reduceLeDiff, Nat.reduceSub, List.size_toArray]
    refine ITri.ret ?_; exact EndR.plain (by simp) (by rfl) (by rfl) (by rfl)
  simp -implicitDefEqProofs (disch := first | decide | exact of_eq_true (eq_true rfl) | omega | assumption) only [hl, h5, decide_false,  ↓vcD, vcE, evs, evP, evB, intsOf, fillC, Value.cells, pt, List.append_nil, List.nil_append, List.cons_append, List.length_cons, List.length_nil, List.filter_nil, List.map_nil, ↓List.getElem?_cons_zero, ↓List.getElem?_cons_succ, List.getElem?_cons_zero, List.getElem?_cons_succ, List.set_cons_zero, List.set_cons_succ, Option.join_some, Option.join_none, Option.map_some, List.all_cons, List.all_nil, Value.oneCell', reduceIte, reduceCtorEq, Nat.reduceEqDiff, Nat.reduceAdd, Nat.reduceMul, Nat.reduceLT, Nat.reduceBEq, Nat.reduceLeDiff, Nat.reduceSub, List.size_toArray]
  refine ITri.cond (v := false) rfl (fun h => by cases h) (fun _ => ?_); refine ITri.skip ?_; simp only [SeqQ_normal, BlkQ_normal]
  have hlit : (∀ i, i < n → smB (nth l i) = true) ∧ tol ≤ 10 := by
    unfold litB at hl
    rw [Bool.and_eq_true, decide_eq_true_eq, List.all_eq_true] at hl
    exact ⟨fun i hi => hl.1 _ (nth_mem (by omega)), hl.2⟩
  refine ITri.seq ?_
  refine ITri.reg pokT ?_; simp -implicitDefEqProofs (disch := first | decide | exact of_eq_true (eq_true rfl) | omega | assumption) only [ ↓vcD, vcE, evs, evP, evB, intsOf, fillC, Value.cells, pt, List.append_nil, List.nil_append, List.cons_append, List.length_cons, List.length_nil, List.filter_nil, List.map_nil, ↓List.getElem?_cons_zero, ↓List.getElem?_cons_succ, List.getElem?_cons_zero, List.getElem?_cons_succ, List.set_cons_zero, List.set_cons_succ, Option.join_some, Option.join_none, Option.map_some, List.all_cons, List.all_nil, Value.oneCell', reduceIte, reduceCtorEq, Nat.reduceEqDiff, Nat.reduceAdd, Nat.reduceMul, Nat.reduceLT, Nat.reduceBEq, Nat.reduceLeDiff, Nat.reduceSub, List.size_toArray] -- r32 law.go:267
  refine ITri.seq ?_
  refine ITri.seq ?_
  refine ITri.reg pokT ?_; simp -implicitDefEqProofs (disch := first | decide | exact of_eq_true (eq_true rfl) | omega | assumption) only [ ↓vcD, vcE, evs, evP, evB, intsOf, fillC, Value.cells, pt, List.append_nil, List.nil_append, List.cons_append, List.length_cons, List.length_nil, List.filter_nil, List.map_nil, ↓List.getElem?_cons_zero, ↓List.getElem?_cons_succ, List.getElem?_cons_zero, List.getElem?_cons_succ, List.set_cons_zero, List.set_cons_succ, Option.join_some, Option.join_none, Option.map_some, List.all_cons, List.all_nil, Value.oneCell', reduceIte, reduceCtorEq, Nat.reduceEqDiff, Nat.reduceAdd, Nat.reduceMul, Nat.reduceLT, Nat.reduceBEq, Nat.reduceLeDiff, Nat.reduceSub, List.size_toArray] -- r33 law.go:268
  refine ITri.block ?_ -- 4
  generalize hTF : (if F.2.2 = true then (F.1, F.2.1, (0 : Int)) else (0, 0, 72)) = TF at *
  generalize hCE : (if o.isSome = true then (0 : Int) else 73) = CE at *
  refine ITri.loop (fun k : Nat => [(2, pt 2), (9, pt 3), (10, .int .i64 TF.2.2), (11, .slice (some ⟨4, 0, none⟩) (o.getD []).length openB), (12, .int .i64 CE), (15, .slice (some ⟨5, 0, none⟩) k openB), (16, .int .i64 k)]) (fun _ => []) (fun k => Hp 2 (m3 n c l tol sx sy [some (.cells ⟨[.int .i64 TF.1, .int .i64 TF.2.1], 1, false⟩), some (.cells ⟨rows eN (o.getD []), 1, true⟩), some (.cells ⟨rows eN (upN 0 k), 1, true⟩)])) (fun k => k ≤ n) (fun k => n - k) 0 (by omega) (Wk.gc [0, 1, 2, 3, 4, 5] [(5, .room 0)] (of_decide_eq_true rfl) (of_decide_eq_true rfl) rfl rfl (of_decide_eq_true rfl) rfl rfl (by repeat (first | exact xiOK_nil | refine xiOK_cons (by first | trivial | exact roomOK _ (by decide)) ?_)) rfl (by simp -implicitDefEqProofs (disch := first | decide | exact of_eq_true (eq_true rfl) | omega | assumption) only [upN, rows_nil, objOK, sgL, xiL, objAt, nilO, OM, mvL, mv, mvS, okS, okP, mvL_rows, okML, okM, okML_rows, List.getElem?_cons_zero, Option.getD_some, implies_true, imp_self, ne_eq, and_self, true_or, or_true, Nat.zero_mul, Nat.sub_self, openB_self, ↓vcD, vcE, evs, evP, evB, intsOf, fillC, Value.cells, pt, List.append_nil, List.nil_append, List.cons_append, List.length_cons, List.length_nil, List.filter_nil, List.map_nil, ↓List.getElem?_cons_zero, ↓List.getElem?_cons_succ, List.getElem?_cons_zero, List.getElem?_cons_succ, List.set_cons_zero, List.set_cons_succ, Option.join_some, Option.join_none, Option.map_some, List.all_cons, List.all_nil, Value.oneCell', reduceIte, reduceCtorEq, Nat.reduceEqDiff, Nat.reduceAdd, Nat.reduceMul, Nat.reduceLT, Nat.reduceBEq, Nat.reduceLeDiff, Nat.reduceSub, List.size_toArray]) (by simp -implicitDefEqProofs (disch := first | decide | exact of_eq_true (eq_true rfl) | omega | assumption) only [upN, rows_nil, valOK, sgL, xiL, mv, mvA, mvL, mvS, okS, okP, okM, okMA, okML, Option.getD_some, implies_true, and_self, true_or, or_true, Int.natCast_add, Int.cast_ofNat_Int, Nat.zero_mul, Nat.sub_self, openB_self, ↓vcD, vcE, evs, evP, evB, intsOf, fillC, Value.cells, pt, List.append_nil, List.nil_append, List.cons_append, List.length_cons, List.length_nil, List.filter_nil, List.map_nil, ↓List.getElem?_cons_zero, ↓List.getElem?_cons_succ, List.getElem?_cons_zero, List.getElem?_cons_succ, List.set_cons_zero, List.set_cons_succ, Option.join_some, Option.join_none, Option.map_some, List.all_cons, List.all_nil, Value.oneCell', reduceIte, reduceCtorEq, Nat.reduceEqDiff, Nat.reduceAdd, Nat.reduceMul, Nat.reduceLT, Nat.reduceBEq, Nat.reduceLeDiff, Nat.reduceSub, List.size_toArray]) (fun _ h => by cases h) ⟨rfl, fun _ h => by cases h⟩) fun k hk => ?_
  have hkL : (rows eN (upN 0 k)).length = k * 1 := by rw [rows_len, upN_len]
  refine ITri.seq ?_
  refine ITri.seq ?_
  refine ITri.reg pokT ?_; simp -implicitDefEqProofs (disch := first | decide | exact of_eq_true (eq_true rfl) | omega | assumption) only [ ↓vcD, vcE, evs, evP, evB, intsOf, fillC, Value.cells, pt, List.append_nil, List.nil_append, List.cons_append, List.length_cons, List.length_nil, List.filter_nil, List.map_nil, ↓List.getElem?_cons_zero, ↓List.getElem?_cons_succ, List.getElem?_cons_zero, List.getElem?_cons_succ, List.set_cons_zero, List.set_cons_succ, Option.join_some, Option.join_none, Option.map_some, List.all_cons, List.all_nil, Value.oneCell', reduceIte, reduceCtorEq, Nat.reduceEqDiff, Nat.reduceAdd, Nat.reduceMul, Nat.reduceLT, Nat.reduceBEq, Nat.reduceLeDiff, Nat.reduceSub, List.size_toArray] -- r34 law.go:268
  refine ITri.condD (by rfl) (fun h16 => ?_) (fun h16 => ?_) -- %205
  · refine ITri.skip ?_; simp only [SeqQ_normal, BlkQ_normal]
    refine ITri.seq ?_
    refine ITri.block ?_ -- 5
    refine ITri.reg pokT ?_; simp -implicitDefEqProofs (disch := first | decide | exact of_eq_true (eq_true rfl) | omega | assumption) only [ ↓vcD, vcE, evs, evP, evB, intsOf, fillC, Value.cells, pt, List.append_nil, List.nil_append, List.cons_append, List.length_cons, List.length_nil, List.filter_nil, List.map_nil, ↓List.getElem?_cons_zero, ↓List.getElem?_cons_succ, List.getElem?_cons_zero, List.getElem?_cons_succ, List.set_cons_zero, List.set_cons_succ, Option.join_some, Option.join_none, Option.map_some, List.all_cons, List.all_nil, Value.oneCell', reduceIte, reduceCtorEq, Nat.reduceEqDiff, Nat.reduceAdd, Nat.reduceMul, Nat.reduceLT, Nat.reduceBEq, Nat.reduceLeDiff, Nat.reduceSub, List.size_toArray] -- r36 law.go:269
    refine ITri.reg pokT ?_; simp -implicitDefEqProofs (disch := first | decide | exact of_eq_true (eq_true rfl) | omega | assumption) only [ ↓vcD, vcE, evs, evP, evB, intsOf, fillC, Value.cells, pt, List.append_nil, List.nil_append, List.cons_append, List.length_cons, List.length_nil, List.filter_nil, List.map_nil, ↓List.getElem?_cons_zero, ↓List.getElem?_cons_succ, List.getElem?_cons_zero, List.getElem?_cons_succ, List.set_cons_zero, List.set_cons_succ, Option.join_some, Option.join_none, Option.map_some, List.all_cons, List.all_nil, Value.oneCell', reduceIte, reduceCtorEq, Nat.reduceEqDiff, Nat.reduceAdd, Nat.reduceMul, Nat.reduceLT, Nat.reduceBEq, Nat.reduceLeDiff, Nat.reduceSub, List.size_toArray] -- r35 law.go:268
    have eu : rows eN (upN 0 (k + 1)) = rows eN (upN 0 k) ++ [.int .i64 k] := by rw [upN_snoc, rows_append]; simp [rows]
    rw [← eu]
    refine LoopQ.next (k + 1) (by omega) (by omega) (Wk.gc [0, 1, 2, 3, 4, 7] [] (of_decide_eq_true rfl) (of_decide_eq_true rfl) rfl rfl (of_decide_eq_true rfl) rfl rfl (by repeat (first | exact xiOK_nil | refine xiOK_cons (by first | trivial | exact roomOK _ (by decide)) ?_)) rfl (by simp -implicitDefEqProofs (disch := first | decide | exact of_eq_true (eq_true rfl) | omega | assumption) only [ objOK, sgL, xiL, objAt, nilO, OM, mvL, mv, mvS, okS, okP, mvL_rows, okML, okM, okML_rows, List.getElem?_cons_zero, Option.getD_some, implies_true, imp_self, ne_eq, and_self, true_or, or_true, Nat.zero_mul, Nat.sub_self, openB_self, ↓vcD, vcE, evs, evP, evB, intsOf, fillC, Value.cells, pt, List.append_nil, List.nil_append, List.cons_append, List.length_cons, List.length_nil, List.filter_nil, List.map_nil, ↓List.getElem?_cons_zero, ↓List.getElem?_cons_succ, List.getElem?_cons_zero, List.getElem?_cons_succ, List.set_cons_zero, List.set_cons_succ, Option.join_some, Option.join_none, Option.map_some, List.all_cons, List.all_nil, Value.oneCell', reduceIte, reduceCtorEq, Nat.reduceEqDiff, Nat.reduceAdd, Nat.reduceMul, Nat.reduceLT, Nat.reduceBEq, Nat.reduceLeDiff, Nat.reduceSub, List.size_toArray]) (by simp -implicitDefEqProofs (disch := first | decide | exact of_eq_true (eq_true rfl) | omega | assumption) only [ valOK, sgL, xiL, mv, mvA, mvL, mvS, okS, okP, okM, okMA, okML, Option.getD_some, implies_true, and_self, true_or, or_true, Int.natCast_add, Int.cast_ofNat_Int, Nat.zero_mul, Nat.sub_self, openB_self, ↓vcD, vcE, evs, evP, evB, intsOf, fillC, Value.cells, pt, List.append_nil, List.nil_append, List.cons_append, List.length_cons, List.length_nil, List.filter_nil, List.map_nil, ↓List.getElem?_cons_zero, ↓List.getElem?_cons_succ, List.getElem?_cons_zero, List.getElem?_cons_succ, List.set_cons_zero, List.set_cons_succ, Option.join_some, Option.join_none, Option.map_some, List.all_cons, List.all_nil, Value.oneCell', reduceIte, reduceCtorEq, Nat.reduceEqDiff, Nat.reduceAdd, Nat.reduceMul, Nat.reduceLT, Nat.reduceBEq, Nat.reduceLeDiff, Nat.reduceSub, List.size_toArray]) (fun _ h => by cases h) ⟨rfl, fun _ h => by cases h⟩)
  refine ITri.exit ?_; try simp -implicitDefEqProofs (disch := first | decide | exact of_eq_true (eq_true rfl) | omega | assumption) only [ ↓vcD, vcE, evs, evP, evB, intsOf, fillC, Value.cells, pt, List.append_nil, List.nil_append, List.cons_append, List.length_cons, List.length_nil, List.filter_nil, List.map_nil, ↓List.getElem?_cons_zero, ↓List.getElem?_cons_succ, List.getElem?_cons_zero, List.getElem?_cons_succ, List.set_cons_zero, List.set_cons_succ, Option.join_some, Option.join_none, Option.map_some, List.all_cons, List.all_nil, Value.oneCell', reduceIte, reduceCtorEq, Nat.reduceEqDiff, Nat.reduceAdd, Nat.reduceMul, Nat.reduceLT, Nat.reduceBEq, Nat.reduceLeDiff, Nat.reduceSub, List.size_toArray] -- exit 4
  obtain rfl : n = k := by omega
  refine ITri.seq ?_
  refine ITri.reg pokT ?_; simp -implicitDefEqProofs (disch := first | decide | exact of_eq_true (eq_true rfl) | omega | assumption) only [ ↓vcD, vcE, evs, evP, evB, intsOf, fillC, Value.cells, pt, List.append_nil, List.nil_append, List.cons_append, List.length_cons, List.length_nil, List.filter_nil, List.map_nil, ↓List.getElem?_cons_zero, ↓List.getElem?_cons_succ, List.getElem?_cons_zero, List.getElem?_cons_succ, List.set_cons_zero, List.set_cons_succ, Option.join_some, Option.join_none, Option.map_some, List.all_cons, List.all_nil, Value.oneCell', reduceIte, reduceCtorEq, Nat.reduceEqDiff, Nat.reduceAdd, Nat.reduceMul, Nat.reduceLT, Nat.reduceBEq, Nat.reduceLeDiff, Nat.reduceSub, List.size_toArray] -- r37 law.go:271 CALLS .call F43 [%214, %215, %217, 20]
  refine ⟨_, _, hrT hlit.1 b4 hlit.2 (sees0 rfl (of_decide_eq_true rfl)) (Rd.hq rfl rfl) (Rd.hq rfl rfl), ?_⟩
  try simp -implicitDefEqProofs (disch := first | decide | exact of_eq_true (eq_true rfl) | omega | assumption) only [ ↓vcD, vcE, evs, evP, evB, intsOf, fillC, Value.cells, pt, List.append_nil, List.nil_append, List.cons_append, List.length_cons, List.length_nil, List.filter_nil, List.map_nil, ↓List.getElem?_cons_zero, ↓List.getElem?_cons_succ, List.getElem?_cons_zero, List.getElem?_cons_succ, List.set_cons_zero, List.set_cons_succ, Option.join_some, Option.join_none, Option.map_some, List.all_cons, List.all_nil, Value.oneCell', reduceIte, reduceCtorEq, Nat.reduceEqDiff, Nat.reduceAdd, Nat.reduceMul, Nat.reduceLT, Nat.reduceBEq, Nat.reduceLeDiff, Nat.reduceSub, List.size_toArray]
  refine ITri.seq ?_
  refine ITri.seq ?_
  cases hF : F.2.2 with
  | true =>
    have e1 := hok (by rw [hF]; rfl)
    subst e1
    rw [if_pos hF] at hTF
    subst hTF
    have hCE2 : CE = 73 := hCE.symm
    subst hCE2
    refine ITri.reg pokT ?_; simp -implicitDefEqProofs (disch := first | decide | exact of_eq_true (eq_true rfl) | omega | assumption) only [hF,  ↓vcD, vcE, evs, evP, evB, intsOf, fillC, Value.cells, pt, List.append_nil, List.nil_append, List.cons_append, List.length_cons, List.length_nil, List.filter_nil, List.map_nil, ↓List.getElem?_cons_zero, ↓List.getElem?_cons_succ, List.getElem?_cons_zero, List.getElem?_cons_succ, List.set_cons_zero, List.set_cons_succ, Option.join_some, Option.join_none, Option.map_some, List.all_cons, List.all_nil, Value.oneCell', reduceIte, reduceCtorEq, Nat.reduceEqDiff, Nat.reduceAdd, Nat.reduceMul, Nat.reduceLT, Nat.reduceBEq, Nat.reduceLeDiff, Nat.reduceSub, List.size_toArray] -- r38 law.go:272
    refine ITri.cond (v := true) rfl (fun _ => ?_) (fun h => by cases h)
    refine ITri.seq ?_
    refine ITri.reg pokT ?_; simp -implicitDefEqProofs (disch := first | decide | exact of_eq_true (eq_true rfl) | omega | assumption) only [eq_same, eq_self, decide_true, Option.getD_none, List.length_nil, Int.natCast_zero,  ↓vcD, vcE, evs, evP, evB, intsOf, fillC, Value.cells, pt, List.append_nil, List.nil_append, List.cons_append, List.length_cons, List.length_nil, List.filter_nil, List.map_nil, ↓List.getElem?_cons_zero, ↓List.getElem?_cons_succ, List.getElem?_cons_zero, List.getElem?_cons_succ, List.set_cons_zero, List.set_cons_succ, Option.join_some, Option.join_none, Option.map_some, List.all_cons, List.all_nil, Value.oneCell', reduceIte, reduceCtorEq, Nat.reduceEqDiff, Nat.reduceAdd, Nat.reduceMul, Nat.reduceLT, Nat.reduceBEq, Nat.reduceLeDiff, Nat.reduceSub, List.size_toArray] -- r39
    refine ⟨_, _, knownT, ?_⟩
    try simp -implicitDefEqProofs (disch := first | decide | exact of_eq_true (eq_true rfl) | omega | assumption) only [ ↓vcD, vcE, evs, evP, evB, intsOf, fillC, Value.cells, pt, List.append_nil, List.nil_append, List.cons_append, List.length_cons, List.length_nil, List.filter_nil, List.map_nil, ↓List.getElem?_cons_zero, ↓List.getElem?_cons_succ, List.getElem?_cons_zero, List.getElem?_cons_succ, List.set_cons_zero, List.set_cons_succ, Option.join_some, Option.join_none, Option.map_some, List.all_cons, List.all_nil, Value.oneCell', reduceIte, reduceCtorEq, Nat.reduceEqDiff, Nat.reduceAdd, Nat.reduceMul, Nat.reduceLT, Nat.reduceBEq, Nat.reduceLeDiff, Nat.reduceSub, List.size_toArray]
    refine ITri.ret ?_; exact EndR.plain (by simp) (by rfl) (by rfl) (by rfl)
  | false =>
    obtain ⟨r, e1⟩ := hbad (by rw [hF]; rfl)
    subst e1
    rw [if_neg (by rw [hF]; simp)] at hTF
    subst hTF
    have hCE2 : CE = 0 := hCE.symm
    subst hCE2
    refine ITri.reg pokT ?_; simp -implicitDefEqProofs (disch := first | decide | exact of_eq_true (eq_true rfl) | omega | assumption) only [hF,  ↓vcD, vcE, evs, evP, evB, intsOf, fillC, Value.cells, pt, List.append_nil, List.nil_append, List.cons_append, List.length_cons, List.length_nil, List.filter_nil, List.map_nil, ↓List.getElem?_cons_zero, ↓List.getElem?_cons_succ, List.getElem?_cons_zero, List.getElem?_cons_succ, List.set_cons_zero, List.set_cons_succ, Option.join_some, Option.join_none, Option.map_some, List.all_cons, List.all_nil, Value.oneCell', reduceIte, reduceCtorEq, Nat.reduceEqDiff, Nat.reduceAdd, Nat.reduceMul, Nat.reduceLT, Nat.reduceBEq, Nat.reduceLeDiff, Nat.reduceSub, List.size_toArray] -- r38 law.go:272
    refine ITri.cond (v := false) rfl (fun h => by cases h) (fun _ => ?_); refine ITri.skip ?_; simp only [SeqQ_normal, BlkQ_normal]
    refine ITri.seq ?_
    refine ITri.reg pokT ?_; simp -implicitDefEqProofs (disch := first | decide | exact of_eq_true (eq_true rfl) | omega | assumption) only [eq_same, eq_self, decide_true, Option.getD_some,  ↓vcD, vcE, evs, evP, evB, intsOf, fillC, Value.cells, pt, List.append_nil, List.nil_append, List.cons_append, List.length_cons, List.length_nil, List.filter_nil, List.map_nil, ↓List.getElem?_cons_zero, ↓List.getElem?_cons_succ, List.getElem?_cons_zero, List.getElem?_cons_succ, List.set_cons_zero, List.set_cons_succ, Option.join_some, Option.join_none, Option.map_some, List.all_cons, List.all_nil, Value.oneCell', reduceIte, reduceCtorEq, Nat.reduceEqDiff, Nat.reduceAdd, Nat.reduceMul, Nat.reduceLT, Nat.reduceBEq, Nat.reduceLeDiff, Nat.reduceSub, List.size_toArray] -- r40
    refine ⟨_, _, hrC (by omega) hlit.1 hlit.2 b4 (sees0 rfl (of_decide_eq_true rfl)) (Rd.hq rfl rfl), ?_⟩
    simp only [slC, rowC]
    rw [Hq_news]
    simp only [List.map_cons, List.map_nil, inL, slL]
    try simp -implicitDefEqProofs (disch := first | decide | exact of_eq_true (eq_true rfl) | omega | assumption) only [ ↓vcD, vcE, evs, evP, evB, intsOf, fillC, Value.cells, pt, List.append_nil, List.nil_append, List.cons_append, List.length_cons, List.length_nil, List.filter_nil, List.map_nil, ↓List.getElem?_cons_zero, ↓List.getElem?_cons_succ, List.getElem?_cons_zero, List.getElem?_cons_succ, List.set_cons_zero, List.set_cons_succ, Option.join_some, Option.join_none, Option.map_some, List.all_cons, List.all_nil, Value.oneCell', reduceIte, reduceCtorEq, Nat.reduceEqDiff, Nat.reduceAdd, Nat.reduceMul, Nat.reduceLT, Nat.reduceBEq, Nat.reduceLeDiff, Nat.reduceSub, List.size_toArray]
    refine ⟨_, _, sameI_f _ _ r r rfl rfl (by have := hcl r rfl; omega) (sees0 rfl (of_decide_eq_true rfl)) (Rd.hq rfl rfl) (Rd.hq rfl rfl), ?_⟩
    simp -implicitDefEqProofs (disch := first | decide | exact of_eq_true (eq_true rfl) | omega | assumption) only [eq_self, decide_true,  ↓vcD, vcE, evs, evP, evB, intsOf, fillC, Value.cells, pt, List.append_nil, List.nil_append, List.cons_append, List.length_cons, List.length_nil, List.filter_nil, List.map_nil, ↓List.getElem?_cons_zero, ↓List.getElem?_cons_succ, List.getElem?_cons_zero, List.getElem?_cons_succ, List.set_cons_zero, List.set_cons_succ, Option.join_some, Option.join_none, Option.map_some, List.all_cons, List.all_nil, Value.oneCell', reduceIte, reduceCtorEq, Nat.reduceEqDiff, Nat.reduceAdd, Nat.reduceMul, Nat.reduceLT, Nat.reduceBEq, Nat.reduceLeDiff, Nat.reduceSub, List.size_toArray]
    refine ⟨_, _, knownT, ?_⟩
    try simp -implicitDefEqProofs (disch := first | decide | exact of_eq_true (eq_true rfl) | omega | assumption) only [ ↓vcD, vcE, evs, evP, evB, intsOf, fillC, Value.cells, pt, List.append_nil, List.nil_append, List.cons_append, List.length_cons, List.length_nil, List.filter_nil, List.map_nil, ↓List.getElem?_cons_zero, ↓List.getElem?_cons_succ, List.getElem?_cons_zero, List.getElem?_cons_succ, List.set_cons_zero, List.set_cons_succ, Option.join_some, Option.join_none, Option.map_some, List.all_cons, List.all_nil, Value.oneCell', reduceIte, reduceCtorEq, Nat.reduceEqDiff, Nat.reduceAdd, Nat.reduceMul, Nat.reduceLT, Nat.reduceBEq, Nat.reduceLeDiff, Nat.reduceSub, List.size_toArray]
    refine ITri.ret ?_; exact EndR.plain (by simp) (by rfl) (by rfl) (by rfl)
set_option maxHeartbeats 1000000 in
theorem turns_4 (n c : Nat) (l : List Tl) (tol sx sy : Int) (hn : l.length = n) (hn12 : n ≤ 12) : ITri Try.prog 264 none 2 ir10_63 (l5 l tol []) [] (Hp 2 (m5 n c l tol sx sy [])) endT := by
  have hT5 := turns_5 n c l tol sx sy hn
  have hwk := wk_ck l tol
  have hws := fun k hk => wk_succ (l := l) (k := k) hk
  have hw0 : wkF l 0 = w1F n := by unfold wkF; rw [hn]; simp
  have etn : ckT l tol ≠ 0 → turnF l tol = (0, 0, ckT l tol) := fun h => if_neg h
  have ecr : ckT l tol ≠ 0 → conR l tol = none := fun h => if_neg h
  have ece : ckT l tol ≠ 0 → conE l tol = ckT l tol := fun h => if_neg h
  have m0 : m5 n c l tol sx sy [] = m3 n c l tol sx sy [some (.cells ⟨[.int .i64 (turnF l tol).1, .int .i64 (turnF l tol).2.1], 1, false⟩), some (.cells ⟨rows eN ((conR l tol).getD []), 1, true⟩)] := rfl
  have l0 : l5 l tol [] = [(2, pt 2), (9, pt 3), (10, .int .i64 (turnF l tol).2.2), (11, .slice (some ⟨4, 0, none⟩) ((conR l tol).getD []).length openB), (12, .int .i64 (conE l tol))] := rfl
  rw [m0, l0] at hT5 ⊢
  clear m0 l0
  generalize turnF l tol = TF at *
  generalize conR l tol = CR at *
  generalize conE l tol = CE at *
  refine ITri.seq ?_
  refine ITri.reg pokT ?_; simp -implicitDefEqProofs (disch := first | decide | exact of_eq_true (eq_true rfl) | omega | assumption) only [ ↓vcD, vcE, evs, evP, evB, intsOf, fillC, Value.cells, pt, List.append_nil, List.nil_append, List.cons_append, List.length_cons, List.length_nil, List.filter_nil, List.map_nil, ↓List.getElem?_cons_zero, ↓List.getElem?_cons_succ, List.getElem?_cons_zero, List.getElem?_cons_succ, List.set_cons_zero, List.set_cons_succ, Option.join_some, Option.join_none, Option.map_some, List.all_cons, List.all_nil, Value.oneCell', reduceIte, reduceCtorEq, Nat.reduceEqDiff, Nat.reduceAdd, Nat.reduceMul, Nat.reduceLT, Nat.reduceBEq, Nat.reduceLeDiff, Nat.reduceSub, List.size_toArray] -- r16
  refine ITri.seq ?_
  refine ITri.cut (fun _ : Unit => [(2, pt 2), (9, pt 3), (10, .int .i64 TF.2.2), (11, .slice (some ⟨4, 0, none⟩) (CR.getD []).length openB), (12, .int .i64 CE), (13, .int .i64 (w1F n))]) (fun _ => []) (fun _ => Hp 2 (m3 n c l tol sx sy [some (.cells ⟨[.int .i64 TF.1, .int .i64 TF.2.1], 1, false⟩), some (.cells ⟨rows eN (CR.getD []), 1, true⟩)])) (fun _ => True) ?_ (fun _ _ => ?_)
  · refine ITri.block ?_ -- 1
    refine ITri.seq ?_
    refine ITri.reg pokT ?_; simp -implicitDefEqProofs (disch := first | decide | exact of_eq_true (eq_true rfl) | omega | assumption) only [ ↓vcD, vcE, evs, evP, evB, intsOf, fillC, Value.cells, pt, List.append_nil, List.nil_append, List.cons_append, List.length_cons, List.length_nil, List.filter_nil, List.map_nil, ↓List.getElem?_cons_zero, ↓List.getElem?_cons_succ, List.getElem?_cons_zero, List.getElem?_cons_succ, List.set_cons_zero, List.set_cons_succ, Option.join_some, Option.join_none, Option.map_some, List.all_cons, List.all_nil, Value.oneCell', reduceIte, reduceCtorEq, Nat.reduceEqDiff, Nat.reduceAdd, Nat.reduceMul, Nat.reduceLT, Nat.reduceBEq, Nat.reduceLeDiff, Nat.reduceSub, List.size_toArray] -- r17 law.go:248
    refine ITri.condD (by rfl) (fun h7 => ?_) (fun h7 => ?_) -- %127
    · have e : w1F n = 5 := if_pos (by omega)
      refine ITri.reg pokT ?_; simp -implicitDefEqProofs (disch := first | decide | exact of_eq_true (eq_true rfl) | omega | assumption) only [ ↓vcD, vcE, evs, evP, evB, intsOf, fillC, Value.cells, pt, List.append_nil, List.nil_append, List.cons_append, List.length_cons, List.length_nil, List.filter_nil, List.map_nil, ↓List.getElem?_cons_zero, ↓List.getElem?_cons_succ, List.getElem?_cons_zero, List.getElem?_cons_succ, List.set_cons_zero, List.set_cons_succ, Option.join_some, Option.join_none, Option.map_some, List.all_cons, List.all_nil, Value.oneCell', reduceIte, reduceCtorEq, Nat.reduceEqDiff, Nat.reduceAdd, Nat.reduceMul, Nat.reduceLT, Nat.reduceBEq, Nat.reduceLeDiff, Nat.reduceSub, List.size_toArray] -- r18 law.go:249
      refine CutQ.mk () trivial (Wk.sub ⟨rfl, rfl, rfl, rfl, rfl, by rw [e]; rfl, trivial⟩)
    refine ITri.seq ?_
    refine ITri.reg pokT ?_; simp -implicitDefEqProofs (disch := first | decide | exact of_eq_true (eq_true rfl) | omega | assumption) only [ ↓vcD, vcE, evs, evP, evB, intsOf, fillC, Value.cells, pt, List.append_nil, List.nil_append, List.cons_append, List.length_cons, List.length_nil, List.filter_nil, List.map_nil, ↓List.getElem?_cons_zero, ↓List.getElem?_cons_succ, List.getElem?_cons_zero, List.getElem?_cons_succ, List.set_cons_zero, List.set_cons_succ, Option.join_some, Option.join_none, Option.map_some, List.all_cons, List.all_nil, Value.oneCell', reduceIte, reduceCtorEq, Nat.reduceEqDiff, Nat.reduceAdd, Nat.reduceMul, Nat.reduceLT, Nat.reduceBEq, Nat.reduceLeDiff, Nat.reduceSub, List.size_toArray] -- r19 law.go:250
    refine ITri.condD (by rfl) (fun h8 => ?_) (fun h8 => ?_) -- %132
    · have e : w1F n = 2 := by unfold w1F; rw [if_neg (by omega), if_pos (by omega)]
      refine ITri.reg pokT ?_; simp -implicitDefEqProofs (disch := first | decide | exact of_eq_true (eq_true rfl) | omega | assumption) only [ ↓vcD, vcE, evs, evP, evB, intsOf, fillC, Value.cells, pt, List.append_nil, List.nil_append, List.cons_append, List.length_cons, List.length_nil, List.filter_nil, List.map_nil, ↓List.getElem?_cons_zero, ↓List.getElem?_cons_succ, List.getElem?_cons_zero, List.getElem?_cons_succ, List.set_cons_zero, List.set_cons_succ, Option.join_some, Option.join_none, Option.map_some, List.all_cons, List.all_nil, Value.oneCell', reduceIte, reduceCtorEq, Nat.reduceEqDiff, Nat.reduceAdd, Nat.reduceMul, Nat.reduceLT, Nat.reduceBEq, Nat.reduceLeDiff, Nat.reduceSub, List.size_toArray] -- r20 law.go:251
      refine CutQ.mk () trivial (Wk.sub ⟨rfl, rfl, rfl, rfl, rfl, by rw [e]; rfl, trivial⟩)
    refine ITri.skip ?_; simp only [SeqQ_normal, BlkQ_normal]
    have e : w1F n = 0 := by unfold w1F; rw [if_neg (by omega), if_neg (by omega)]
    refine CutQ.mk () trivial (Wk.sub ⟨rfl, rfl, rfl, rfl, rfl, by rw [e]; rfl, trivial⟩)
  refine ITri.seq ?_
  refine ITri.seq ?_
  refine ITri.reg pokT ?_; simp -implicitDefEqProofs (disch := first | decide | exact of_eq_true (eq_true rfl) | omega | assumption) only [ ↓vcD, vcE, evs, evP, evB, intsOf, fillC, Value.cells, pt, List.append_nil, List.nil_append, List.cons_append, List.length_cons, List.length_nil, List.filter_nil, List.map_nil, ↓List.getElem?_cons_zero, ↓List.getElem?_cons_succ, List.getElem?_cons_zero, List.getElem?_cons_succ, List.set_cons_zero, List.set_cons_succ, Option.join_some, Option.join_none, Option.map_some, List.all_cons, List.all_nil, Value.oneCell', reduceIte, reduceCtorEq, Nat.reduceEqDiff, Nat.reduceAdd, Nat.reduceMul, Nat.reduceLT, Nat.reduceBEq, Nat.reduceLeDiff, Nat.reduceSub, List.size_toArray] -- r21 law.go:253
  refine ITri.block ?_ -- 2
  refine ITri.loop (fun k : Nat => [(2, pt 2), (9, pt 3), (10, .int .i64 TF.2.2), (11, .slice (some ⟨4, 0, none⟩) (CR.getD []).length openB), (12, .int .i64 CE), (13, .int .i64 (wkF l k)), (14, .int .i64 k)]) (fun _ => []) (fun k => Hp 2 (m3 n c l tol sx sy [some (.cells ⟨[.int .i64 TF.1, .int .i64 TF.2.1], 1, false⟩), some (.cells ⟨rows eN (CR.getD []), 1, true⟩)])) (fun k => k ≤ n) (fun k => n - k) 0 (by omega) (Wk.sub ⟨rfl, rfl, rfl, rfl, rfl, by rw [hw0]; rfl, rfl, trivial⟩) fun k hk => ?_
  refine ITri.seq ?_
  refine ITri.seq ?_
  refine ITri.reg pokT ?_; simp -implicitDefEqProofs (disch := first | decide | exact of_eq_true (eq_true rfl) | omega | assumption) only [ ↓vcD, vcE, evs, evP, evB, intsOf, fillC, Value.cells, pt, List.append_nil, List.nil_append, List.cons_append, List.length_cons, List.length_nil, List.filter_nil, List.map_nil, ↓List.getElem?_cons_zero, ↓List.getElem?_cons_succ, List.getElem?_cons_zero, List.getElem?_cons_succ, List.set_cons_zero, List.set_cons_succ, Option.join_some, Option.join_none, Option.map_some, List.all_cons, List.all_nil, Value.oneCell', reduceIte, reduceCtorEq, Nat.reduceEqDiff, Nat.reduceAdd, Nat.reduceMul, Nat.reduceLT, Nat.reduceBEq, Nat.reduceLeDiff, Nat.reduceSub, List.size_toArray] -- r22 law.go:253
  refine ITri.condD (by rfl) (fun h10 => ?_) (fun h10 => ?_) -- %141
  · have hkn : k < l.length := by omega
    refine ITri.skip ?_; simp only [SeqQ_normal, BlkQ_normal]
    refine ITri.seq ?_
    refine ITri.cut (fun _ : Unit => [(2, pt 2), (9, pt 3), (10, .int .i64 TF.2.2), (11, .slice (some ⟨4, 0, none⟩) (CR.getD []).length openB), (12, .int .i64 CE), (13, .int .i64 (wkF l (k + 1))), (14, .int .i64 k)]) (fun _ => []) (fun _ => Hp 2 (m3 n c l tol sx sy [some (.cells ⟨[.int .i64 TF.1, .int .i64 TF.2.1], 1, false⟩), some (.cells ⟨rows eN (CR.getD []), 1, true⟩)])) (fun _ => True) ?_ (fun _ _ => ?_)
    · have hs := hws k hkn
      refine ITri.block ?_ -- 3
      refine ITri.seq ?_
      by_cases g1 : wkF l k = 0
      · refine ITri.reg pokT ?_; simp -implicitDefEqProofs (disch := first | decide | exact of_eq_true (eq_true rfl) | omega | assumption) only [g1, takeT, decide_true,  ↓vcD, vcE, evs, evP, evB, intsOf, fillC, Value.cells, pt, List.append_nil, List.nil_append, List.cons_append, List.length_cons, List.length_nil, List.filter_nil, List.map_nil, ↓List.getElem?_cons_zero, ↓List.getElem?_cons_succ, List.getElem?_cons_zero, List.getElem?_cons_succ, List.set_cons_zero, List.set_cons_succ, Option.join_some, Option.join_none, Option.map_some, List.all_cons, List.all_nil, Value.oneCell', reduceIte, reduceCtorEq, Nat.reduceEqDiff, Nat.reduceAdd, Nat.reduceMul, Nat.reduceLT, Nat.reduceBEq, Nat.reduceLeDiff, Nat.reduceSub, List.size_toArray] -- r24 law.go:254
        refine ⟨_, _, refTilt_f (nth l k) (sees0 rfl (of_decide_eq_true rfl)), ?_⟩
        cases g2 : tltB (nth l k) with
        | false =>
          rw [if_pos ⟨g1, g2⟩] at hs
          simp -implicitDefEqProofs (disch := first | decide | exact of_eq_true (eq_true rfl) | omega | assumption) only [g2,  ↓vcD, vcE, evs, evP, evB, intsOf, fillC, Value.cells, pt, List.append_nil, List.nil_append, List.cons_append, List.length_cons, List.length_nil, List.filter_nil, List.map_nil, ↓List.getElem?_cons_zero, ↓List.getElem?_cons_succ, List.getElem?_cons_zero, List.getElem?_cons_succ, List.set_cons_zero, List.set_cons_succ, Option.join_some, Option.join_none, Option.map_some, List.all_cons, List.all_nil, Value.oneCell', reduceIte, reduceCtorEq, Nat.reduceEqDiff, Nat.reduceAdd, Nat.reduceMul, Nat.reduceLT, Nat.reduceBEq, Nat.reduceLeDiff, Nat.reduceSub, List.size_toArray]
          refine ITri.cond (v := true) rfl (fun _ => ?_) (fun h => by cases h)
          refine ITri.reg pokT ?_; simp -implicitDefEqProofs (disch := first | decide | exact of_eq_true (eq_true rfl) | omega | assumption) only [ ↓vcD, vcE, evs, evP, evB, intsOf, fillC, Value.cells, pt, List.append_nil, List.nil_append, List.cons_append, List.length_cons, List.length_nil, List.filter_nil, List.map_nil, ↓List.getElem?_cons_zero, ↓List.getElem?_cons_succ, List.getElem?_cons_zero, List.getElem?_cons_succ, List.set_cons_zero, List.set_cons_succ, Option.join_some, Option.join_none, Option.map_some, List.all_cons, List.all_nil, Value.oneCell', reduceIte, reduceCtorEq, Nat.reduceEqDiff, Nat.reduceAdd, Nat.reduceMul, Nat.reduceLT, Nat.reduceBEq, Nat.reduceLeDiff, Nat.reduceSub, List.size_toArray]
          refine CutQ.mk () trivial (Wk.sub ⟨rfl, rfl, rfl, rfl, rfl, by rw [hs]; rfl, rfl, trivial⟩)
        | true =>
          rw [if_neg (by rw [g2]; simp), g1] at hs
          simp -implicitDefEqProofs (disch := first | decide | exact of_eq_true (eq_true rfl) | omega | assumption) only [g2,  ↓vcD, vcE, evs, evP, evB, intsOf, fillC, Value.cells, pt, List.append_nil, List.nil_append, List.cons_append, List.length_cons, List.length_nil, List.filter_nil, List.map_nil, ↓List.getElem?_cons_zero, ↓List.getElem?_cons_succ, List.getElem?_cons_zero, List.getElem?_cons_succ, List.set_cons_zero, List.set_cons_succ, Option.join_some, Option.join_none, Option.map_some, List.all_cons, List.all_nil, Value.oneCell', reduceIte, reduceCtorEq, Nat.reduceEqDiff, Nat.reduceAdd, Nat.reduceMul, Nat.reduceLT, Nat.reduceBEq, Nat.reduceLeDiff, Nat.reduceSub, List.size_toArray]
          refine ITri.cond (v := false) rfl (fun h => by cases h) (fun _ => ?_); refine ITri.skip ?_; simp only [SeqQ_normal, BlkQ_normal]
          refine CutQ.mk () trivial (Wk.sub ⟨rfl, rfl, rfl, rfl, rfl, by rw [hs]; rfl, rfl, trivial⟩)
      · rw [if_neg (fun h => g1 h.1)] at hs
        refine ITri.reg pokT ?_; simp -implicitDefEqProofs (disch := first | decide | exact of_eq_true (eq_true rfl) | omega | assumption) only [g1, decide_false,  ↓vcD, vcE, evs, evP, evB, intsOf, fillC, Value.cells, pt, List.append_nil, List.nil_append, List.cons_append, List.length_cons, List.length_nil, List.filter_nil, List.map_nil, ↓List.getElem?_cons_zero, ↓List.getElem?_cons_succ, List.getElem?_cons_zero, List.getElem?_cons_succ, List.set_cons_zero, List.set_cons_succ, Option.join_some, Option.join_none, Option.map_some, List.all_cons, List.all_nil, Value.oneCell', reduceIte, reduceCtorEq, Nat.reduceEqDiff, Nat.reduceAdd, Nat.reduceMul, Nat.reduceLT, Nat.reduceBEq, Nat.reduceLeDiff, Nat.reduceSub, List.size_toArray]
        refine ITri.cond (v := false) rfl (fun h => by cases h) (fun _ => ?_); refine ITri.skip ?_; simp only [SeqQ_normal, BlkQ_normal]
        refine CutQ.mk () trivial (Wk.sub ⟨rfl, rfl, rfl, rfl, rfl, by rw [hs]; rfl, rfl, trivial⟩)
    refine ITri.reg pokT ?_; simp -implicitDefEqProofs (disch := first | decide | exact of_eq_true (eq_true rfl) | omega | assumption) only [ ↓vcD, vcE, evs, evP, evB, intsOf, fillC, Value.cells, pt, List.append_nil, List.nil_append, List.cons_append, List.length_cons, List.length_nil, List.filter_nil, List.map_nil, ↓List.getElem?_cons_zero, ↓List.getElem?_cons_succ, List.getElem?_cons_zero, List.getElem?_cons_succ, List.set_cons_zero, List.set_cons_succ, Option.join_some, Option.join_none, Option.map_some, List.all_cons, List.all_nil, Value.oneCell', reduceIte, reduceCtorEq, Nat.reduceEqDiff, Nat.reduceAdd, Nat.reduceMul, Nat.reduceLT, Nat.reduceBEq, Nat.reduceLeDiff, Nat.reduceSub, List.size_toArray] -- r23 law.go:253
    refine LoopQ.next (k + 1) (by omega) (by omega) (Wk.sub ⟨rfl, rfl, rfl, rfl, rfl, rfl, rfl, trivial⟩)
  refine ITri.exit ?_; try simp -implicitDefEqProofs (disch := first | decide | exact of_eq_true (eq_true rfl) | omega | assumption) only [ ↓vcD, vcE, evs, evP, evB, intsOf, fillC, Value.cells, pt, List.append_nil, List.nil_append, List.cons_append, List.length_cons, List.length_nil, List.filter_nil, List.map_nil, ↓List.getElem?_cons_zero, ↓List.getElem?_cons_succ, List.getElem?_cons_zero, List.getElem?_cons_succ, List.set_cons_zero, List.set_cons_succ, Option.join_some, Option.join_none, Option.map_some, List.all_cons, List.all_nil, Value.oneCell', reduceIte, reduceCtorEq, Nat.reduceEqDiff, Nat.reduceAdd, Nat.reduceMul, Nat.reduceLT, Nat.reduceBEq, Nat.reduceLeDiff, Nat.reduceSub, List.size_toArray] -- exit 2
  have hkn : l.length = k := by omega
  rw [hkn] at hwk
  refine ITri.seq ?_
  refine ITri.cut (fun _ : Unit => [(2, pt 2), (9, pt 3), (10, .int .i64 TF.2.2), (11, .slice (some ⟨4, 0, none⟩) (CR.getD []).length openB), (12, .int .i64 CE), (13, .int .i64 (ckT l tol))]) (fun _ => []) (fun _ => Hp 2 (m3 n c l tol sx sy [some (.cells ⟨[.int .i64 TF.1, .int .i64 TF.2.1], 1, false⟩), some (.cells ⟨rows eN (CR.getD []), 1, true⟩)])) (fun _ => True) ?_ (fun _ _ => ?_)
  · refine ITri.seq ?_
    by_cases g1 : wkF l k = 0
    · by_cases g2 : tol < 0
      · rw [if_pos ⟨g1, .inl g2⟩] at hwk
        refine ITri.reg pokT ?_; simp -implicitDefEqProofs (disch := first | decide | exact of_eq_true (eq_true rfl) | omega | assumption) only [g1, g2, decide_true,  ↓vcD, vcE, evs, evP, evB, intsOf, fillC, Value.cells, pt, List.append_nil, List.nil_append, List.cons_append, List.length_cons, List.length_nil, List.filter_nil, List.map_nil, ↓List.getElem?_cons_zero, ↓List.getElem?_cons_succ, List.getElem?_cons_zero, List.getElem?_cons_succ, List.set_cons_zero, List.set_cons_succ, Option.join_some, Option.join_none, Option.map_some, List.all_cons, List.all_nil, Value.oneCell', reduceIte, reduceCtorEq, Nat.reduceEqDiff, Nat.reduceAdd, Nat.reduceMul, Nat.reduceLT, Nat.reduceBEq, Nat.reduceLeDiff, Nat.reduceSub, List.size_toArray]
        refine ITri.cond (v := true) rfl (fun _ => ?_) (fun h => by cases h)
        refine ITri.reg pokT ?_; simp -implicitDefEqProofs (disch := first | decide | exact of_eq_true (eq_true rfl) | omega | assumption) only [ ↓vcD, vcE, evs, evP, evB, intsOf, fillC, Value.cells, pt, List.append_nil, List.nil_append, List.cons_append, List.length_cons, List.length_nil, List.filter_nil, List.map_nil, ↓List.getElem?_cons_zero, ↓List.getElem?_cons_succ, List.getElem?_cons_zero, List.getElem?_cons_succ, List.set_cons_zero, List.set_cons_succ, Option.join_some, Option.join_none, Option.map_some, List.all_cons, List.all_nil, Value.oneCell', reduceIte, reduceCtorEq, Nat.reduceEqDiff, Nat.reduceAdd, Nat.reduceMul, Nat.reduceLT, Nat.reduceBEq, Nat.reduceLeDiff, Nat.reduceSub, List.size_toArray]
        refine CutQ.mk () trivial (Wk.sub ⟨rfl, rfl, rfl, rfl, rfl, by rw [hwk]; rfl, trivial⟩)
      by_cases g3 : 36000 < tol
      · rw [if_pos ⟨g1, .inr g3⟩] at hwk
        refine ITri.reg pokT ?_; simp -implicitDefEqProofs (disch := first | decide | exact of_eq_true (eq_true rfl) | omega | assumption) only [g1, g2, g3, decide_true, decide_false,  ↓vcD, vcE, evs, evP, evB, intsOf, fillC, Value.cells, pt, List.append_nil, List.nil_append, List.cons_append, List.length_cons, List.length_nil, List.filter_nil, List.map_nil, ↓List.getElem?_cons_zero, ↓List.getElem?_cons_succ, List.getElem?_cons_zero, List.getElem?_cons_succ, List.set_cons_zero, List.set_cons_succ, Option.join_some, Option.join_none, Option.map_some, List.all_cons, List.all_nil, Value.oneCell', reduceIte, reduceCtorEq, Nat.reduceEqDiff, Nat.reduceAdd, Nat.reduceMul, Nat.reduceLT, Nat.reduceBEq, Nat.reduceLeDiff, Nat.reduceSub, List.size_toArray]
        refine ITri.cond (v := true) rfl (fun _ => ?_) (fun h => by cases h)
        refine ITri.reg pokT ?_; simp -implicitDefEqProofs (disch := first | decide | exact of_eq_true (eq_true rfl) | omega | assumption) only [ ↓vcD, vcE, evs, evP, evB, intsOf, fillC, Value.cells, pt, List.append_nil, List.nil_append, List.cons_append, List.length_cons, List.length_nil, List.filter_nil, List.map_nil, ↓List.getElem?_cons_zero, ↓List.getElem?_cons_succ, List.getElem?_cons_zero, List.getElem?_cons_succ, List.set_cons_zero, List.set_cons_succ, Option.join_some, Option.join_none, Option.map_some, List.all_cons, List.all_nil, Value.oneCell', reduceIte, reduceCtorEq, Nat.reduceEqDiff, Nat.reduceAdd, Nat.reduceMul, Nat.reduceLT, Nat.reduceBEq, Nat.reduceLeDiff, Nat.reduceSub, List.size_toArray]
        refine CutQ.mk () trivial (Wk.sub ⟨rfl, rfl, rfl, rfl, rfl, by rw [hwk]; rfl, trivial⟩)
      · rw [if_neg (by omega), g1] at hwk
        refine ITri.reg pokT ?_; simp -implicitDefEqProofs (disch := first | decide | exact of_eq_true (eq_true rfl) | omega | assumption) only [g1, g2, g3, decide_true, decide_false,  ↓vcD, vcE, evs, evP, evB, intsOf, fillC, Value.cells, pt, List.append_nil, List.nil_append, List.cons_append, List.length_cons, List.length_nil, List.filter_nil, List.map_nil, ↓List.getElem?_cons_zero, ↓List.getElem?_cons_succ, List.getElem?_cons_zero, List.getElem?_cons_succ, List.set_cons_zero, List.set_cons_succ, Option.join_some, Option.join_none, Option.map_some, List.all_cons, List.all_nil, Value.oneCell', reduceIte, reduceCtorEq, Nat.reduceEqDiff, Nat.reduceAdd, Nat.reduceMul, Nat.reduceLT, Nat.reduceBEq, Nat.reduceLeDiff, Nat.reduceSub, List.size_toArray]
        refine ITri.cond (v := false) rfl (fun h => by cases h) (fun _ => ?_); refine ITri.skip ?_
        refine CutQ.mk () trivial (Wk.sub ⟨rfl, rfl, rfl, rfl, rfl, by rw [hwk]; rfl, trivial⟩)
    · rw [if_neg (fun h => g1 h.1)] at hwk
      refine ITri.reg pokT ?_; simp -implicitDefEqProofs (disch := first | decide | exact of_eq_true (eq_true rfl) | omega | assumption) only [g1, decide_false,  ↓vcD, vcE, evs, evP, evB, intsOf, fillC, Value.cells, pt, List.append_nil, List.nil_append, List.cons_append, List.length_cons, List.length_nil, List.filter_nil, List.map_nil, ↓List.getElem?_cons_zero, ↓List.getElem?_cons_succ, List.getElem?_cons_zero, List.getElem?_cons_succ, List.set_cons_zero, List.set_cons_succ, Option.join_some, Option.join_none, Option.map_some, List.all_cons, List.all_nil, Value.oneCell', reduceIte, reduceCtorEq, Nat.reduceEqDiff, Nat.reduceAdd, Nat.reduceMul, Nat.reduceLT, Nat.reduceBEq, Nat.reduceLeDiff, Nat.reduceSub, List.size_toArray]
      refine ITri.cond (v := false) rfl (fun h => by cases h) (fun _ => ?_); refine ITri.skip ?_
      refine CutQ.mk () trivial (Wk.sub ⟨rfl, rfl, rfl, rfl, rfl, by rw [hwk]; rfl, trivial⟩)
  refine ITri.seq ?_
  refine ITri.seq ?_
  by_cases g1 : ckT l tol = 0
  · refine ITri.reg pokT ?_; simp -implicitDefEqProofs (disch := first | decide | exact of_eq_true (eq_true rfl) | omega | assumption) only [g1, decide_true,  ↓vcD, vcE, evs, evP, evB, intsOf, fillC, Value.cells, pt, List.append_nil, List.nil_append, List.cons_append, List.length_cons, List.length_nil, List.filter_nil, List.map_nil, ↓List.getElem?_cons_zero, ↓List.getElem?_cons_succ, List.getElem?_cons_zero, List.getElem?_cons_succ, List.set_cons_zero, List.set_cons_succ, Option.join_some, Option.join_none, Option.map_some, List.all_cons, List.all_nil, Value.oneCell', reduceIte, reduceCtorEq, Nat.reduceEqDiff, Nat.reduceAdd, Nat.reduceMul, Nat.reduceLT, Nat.reduceBEq, Nat.reduceLeDiff, Nat.reduceSub, List.size_toArray]
    refine ITri.cond (v := false) rfl (fun h => by cases h) (fun _ => ?_); refine ITri.skip ?_; simp only [SeqQ_normal, BlkQ_normal]
    refine ITri.weak ?_ (hT5 g1)
    exact (Wk.sub ⟨rfl, rfl, rfl, rfl, rfl, trivial⟩)
  · have q1 := etn g1
    have q2 := ecr g1
    have q3 := ece g1
    subst q1 q2 q3
    refine ITri.reg pokT ?_; simp -implicitDefEqProofs (disch := first | decide | exact of_eq_true (eq_true rfl) | omega | assumption) only [g1, decide_false,  ↓vcD, vcE, evs, evP, evB, intsOf, fillC, Value.cells, pt, List.append_nil, List.nil_append, List.cons_append, List.length_cons, List.length_nil, List.filter_nil, List.map_nil, ↓List.getElem?_cons_zero, ↓List.getElem?_cons_succ, List.getElem?_cons_zero, List.getElem?_cons_succ, List.set_cons_zero, List.set_cons_succ, Option.join_some, Option.join_none, Option.map_some, List.all_cons, List.all_nil, Value.oneCell', reduceIte, reduceCtorEq, Nat.reduceEqDiff, Nat.reduceAdd, Nat.reduceMul, Nat.reduceLT, Nat.reduceBEq, Nat.reduceLeDiff, Nat.reduceSub, List.size_toArray]
    refine ITri.cond (v := true) rfl (fun _ => ?_) (fun h => by cases h)
    refine ITri.seq ?_
    refine ITri.reg pokT ?_; simp -implicitDefEqProofs (disch := first | decide | exact of_eq_true (eq_true rfl) | omega | assumption) only [eq_same, eq_self, decide_true, Option.getD_none, List.length_nil, Int.natCast_zero,  ↓vcD, vcE, evs, evP, evB, intsOf, fillC, Value.cells, pt, List.append_nil, List.nil_append, List.cons_append, List.length_cons, List.length_nil, List.filter_nil, List.map_nil, ↓List.getElem?_cons_zero, ↓List.getElem?_cons_succ, List.getElem?_cons_zero, List.getElem?_cons_succ, List.set_cons_zero, List.set_cons_succ, Option.join_some, Option.join_none, Option.map_some, List.all_cons, List.all_nil, Value.oneCell', reduceIte, reduceCtorEq, Nat.reduceEqDiff, Nat.reduceAdd, Nat.reduceMul, Nat.reduceLT, Nat.reduceBEq, Nat.reduceLeDiff, Nat.reduceSub, List.size_toArray]
    refine ⟨_, _, knownT, ?_⟩
    try simp -implicitDefEqProofs (disch := first | decide | exact of_eq_true (eq_true rfl) | omega | assumption) only [ ↓vcD, vcE, evs, evP, evB, intsOf, fillC, Value.cells, pt, List.append_nil, List.nil_append, List.cons_append, List.length_cons, List.length_nil, List.filter_nil, List.map_nil, ↓List.getElem?_cons_zero, ↓List.getElem?_cons_succ, List.getElem?_cons_zero, List.getElem?_cons_succ, List.set_cons_zero, List.set_cons_succ, Option.join_some, Option.join_none, Option.map_some, List.all_cons, List.all_nil, Value.oneCell', reduceIte, reduceCtorEq, Nat.reduceEqDiff, Nat.reduceAdd, Nat.reduceMul, Nat.reduceLT, Nat.reduceBEq, Nat.reduceLeDiff, Nat.reduceSub, List.size_toArray]
    refine ITri.ret ?_; exact EndR.plain (by simp) (by rfl) (by rfl) (by rfl)
theorem turns_3 (n c : Nat) (l : List Tl) (tol sx sy : Int) (hn : l.length = n) (hn12 : n ≤ 12) : ITri Try.prog 264 none 2 ir10_65 [(2, pt 2)] [] (Hp 2 (m3 n c l tol sx sy [])) endT := by
  have hlen : (rows eT l).length = n * 4 := by rw [rows_len, hn]
  have htkA : takeC (rows eT l) 0 (n * 4) = some (rows eT l) := takeC_0 _ _ hlen
  refine ITri.seq ?_
  refine ITri.cut (fun _ : Unit => [(2, pt 2), (9, pt 3), (10, .int .i64 (turnF l tol).2.2)]) (fun _ => []) (fun _ => Hp 2 (m3 n c l tol sx sy [some (.cells ⟨[.int .i64 (turnF l tol).1, .int .i64 (turnF l tol).2.1], 1, false⟩)])) (fun _ => True) ?_ (fun _ _ => ?_)
  · by_cases hn0 : n = 0
    · have hl0 : l = [] := List.eq_nil_of_length_eq_zero (by omega)
      subst hn0
      subst hl0
      refine ITri.draw pokT ?_; simp -implicitDefEqProofs (disch := first | decide | exact of_eq_true (eq_true rfl) | omega | assumption) only [appK_0, rows_nil,  ↓vcD, vcE, evs, evP, evB, intsOf, fillC, Value.cells, pt, List.append_nil, List.nil_append, List.cons_append, List.length_cons, List.length_nil, List.filter_nil, List.map_nil, ↓List.getElem?_cons_zero, ↓List.getElem?_cons_succ, List.getElem?_cons_zero, List.getElem?_cons_succ, List.set_cons_zero, List.set_cons_succ, Option.join_some, Option.join_none, Option.map_some, List.all_cons, List.all_nil, Value.oneCell', reduceIte, reduceCtorEq, Nat.reduceEqDiff, Nat.reduceAdd, Nat.reduceMul, Nat.reduceLT, Nat.reduceBEq, Nat.reduceLeDiff, Nat.reduceSub, List.size_toArray] -- r14
      refine ⟨_, _, turn_f 0 [] tol rfl (sees0 rfl (of_decide_eq_true rfl)) (Rd.hq rfl rfl), ?_⟩
      try simp -implicitDefEqProofs (disch := first | decide | exact of_eq_true (eq_true rfl) | omega | assumption) only [ ↓vcD, vcE, evs, evP, evB, intsOf, fillC, Value.cells, pt, List.append_nil, List.nil_append, List.cons_append, List.length_cons, List.length_nil, List.filter_nil, List.map_nil, ↓List.getElem?_cons_zero, ↓List.getElem?_cons_succ, List.getElem?_cons_zero, List.getElem?_cons_succ, List.set_cons_zero, List.set_cons_succ, Option.join_some, Option.join_none, Option.map_some, List.all_cons, List.all_nil, Value.oneCell', reduceIte, reduceCtorEq, Nat.reduceEqDiff, Nat.reduceAdd, Nat.reduceMul, Nat.reduceLT, Nat.reduceBEq, Nat.reduceLeDiff, Nat.reduceSub, List.size_toArray]
      exact CutQ.mk () trivial (Wk.gc [0, 1, 2, 4] [] (of_decide_eq_true rfl) (of_decide_eq_true rfl) rfl rfl (of_decide_eq_true rfl) rfl rfl (by repeat (first | exact xiOK_nil | refine xiOK_cons (by first | trivial | exact roomOK _ (by decide)) ?_)) rfl (by simp -implicitDefEqProofs (disch := first | decide | exact of_eq_true (eq_true rfl) | omega | assumption) only [rows_nil, objOK, sgL, xiL, objAt, nilO, OM, mvL, mv, mvS, okS, okP, mvL_rows, okML, okM, okML_rows, List.getElem?_cons_zero, Option.getD_some, implies_true, imp_self, ne_eq, and_self, true_or, or_true, Nat.zero_mul, Nat.sub_self, openB_self, ↓vcD, vcE, evs, evP, evB, intsOf, fillC, Value.cells, pt, List.append_nil, List.nil_append, List.cons_append, List.length_cons, List.length_nil, List.filter_nil, List.map_nil, ↓List.getElem?_cons_zero, ↓List.getElem?_cons_succ, List.getElem?_cons_zero, List.getElem?_cons_succ, List.set_cons_zero, List.set_cons_succ, Option.join_some, Option.join_none, Option.map_some, List.all_cons, List.all_nil, Value.oneCell', reduceIte, reduceCtorEq, Nat.reduceEqDiff, Nat.reduceAdd, Nat.reduceMul, Nat.reduceLT, Nat.reduceBEq, Nat.reduceLeDiff, Nat.reduceSub, List.size_toArray]) (by simp -implicitDefEqProofs (disch := first | decide | exact of_eq_true (eq_true rfl) | omega | assumption) only [rows_nil, valOK, sgL, xiL, mv, mvA, mvL, mvS, okS, okP, okM, okMA, okML, Option.getD_some, implies_true, and_self, true_or, or_true, Int.natCast_add, Int.cast_ofNat_Int, Nat.zero_mul, Nat.sub_self, openB_self, ↓vcD, vcE, evs, evP, evB, intsOf, fillC, Value.cells, pt, List.append_nil, List.nil_append, List.cons_append, List.length_cons, List.length_nil, List.filter_nil, List.map_nil, ↓List.getElem?_cons_zero, ↓List.getElem?_cons_succ, List.getElem?_cons_zero, List.getElem?_cons_succ, List.set_cons_zero, List.set_cons_succ, Option.join_some, Option.join_none, Option.map_some, List.all_cons, List.all_nil, Value.oneCell', reduceIte, reduceCtorEq, Nat.reduceEqDiff, Nat.reduceAdd, Nat.reduceMul, Nat.reduceLT, Nat.reduceBEq, Nat.reduceLeDiff, Nat.reduceSub, List.size_toArray]) (fun _ h => by cases h) ⟨rfl, fun _ h => by cases h⟩)
    · refine ITri.draw pokT ?_; simp -implicitDefEqProofs (disch := first | decide | exact of_eq_true (eq_true rfl) | omega | assumption) only [htkA, hlen, rows_allT,  ↓vcD, vcE, evs, evP, evB, intsOf, fillC, Value.cells, pt, List.append_nil, List.nil_append, List.cons_append, List.length_cons, List.length_nil, List.filter_nil, List.map_nil, ↓List.getElem?_cons_zero, ↓List.getElem?_cons_succ, List.getElem?_cons_zero, List.getElem?_cons_succ, List.set_cons_zero, List.set_cons_succ, Option.join_some, Option.join_none, Option.map_some, List.all_cons, List.all_nil, Value.oneCell', reduceIte, reduceCtorEq, Nat.reduceEqDiff, Nat.reduceAdd, Nat.reduceMul, Nat.reduceLT, Nat.reduceBEq, Nat.reduceLeDiff, Nat.reduceSub, List.size_toArray] -- r14
      refine ⟨_, _, turn_f n l tol hn (sees0 rfl (of_decide_eq_true rfl)) (Rd.hq rfl rfl), ?_⟩
      try simp -implicitDefEqProofs (disch := first | decide | exact of_eq_true (eq_true rfl) | omega | assumption) only [ ↓vcD, vcE, evs, evP, evB, intsOf, fillC, Value.cells, pt, List.append_nil, List.nil_append, List.cons_append, List.length_cons, List.length_nil, List.filter_nil, List.map_nil, ↓List.getElem?_cons_zero, ↓List.getElem?_cons_succ, List.getElem?_cons_zero, List.getElem?_cons_succ, List.set_cons_zero, List.set_cons_succ, Option.join_some, Option.join_none, Option.map_some, List.all_cons, List.all_nil, Value.oneCell', reduceIte, reduceCtorEq, Nat.reduceEqDiff, Nat.reduceAdd, Nat.reduceMul, Nat.reduceLT, Nat.reduceBEq, Nat.reduceLeDiff, Nat.reduceSub, List.size_toArray]
      exact CutQ.mk () trivial (Wk.gc [0, 1, 2, 5] [] (of_decide_eq_true rfl) (of_decide_eq_true rfl) rfl rfl (of_decide_eq_true rfl) rfl rfl (fun _ h => by cases h) rfl (by simp -implicitDefEqProofs (disch := first | decide | exact of_eq_true (eq_true rfl) | omega | assumption) only [objOK, sgL, xiL, objAt, nilO, OM, mvL, mv, mvS, okS, okP, mvL_rows, okML, okM, okML_rows, List.getElem?_cons_zero, Option.getD_some, implies_true, imp_self, ne_eq, and_self, ↓vcD, vcE, evs, evP, evB, intsOf, fillC, Value.cells, pt, List.append_nil, List.nil_append, List.cons_append, List.length_cons, List.length_nil, List.filter_nil, List.map_nil, ↓List.getElem?_cons_zero, ↓List.getElem?_cons_succ, List.getElem?_cons_zero, List.getElem?_cons_succ, List.set_cons_zero, List.set_cons_succ, Option.join_some, Option.join_none, Option.map_some, List.all_cons, List.all_nil, Value.oneCell', reduceIte, reduceCtorEq, Nat.reduceEqDiff, Nat.reduceAdd, Nat.reduceMul, Nat.reduceLT, Nat.reduceBEq, Nat.reduceLeDiff, Nat.reduceSub, List.size_toArray]) (by simp -implicitDefEqProofs (disch := first | decide | exact of_eq_true (eq_true rfl) | omega | assumption) only [ valOK, sgL, xiL, mv, mvA, mvL, mvS, okS, okP, okM, okMA, okML, Option.getD_some, implies_true, and_self, Int.natCast_add, Int.cast_ofNat_Int, ↓vcD, vcE, evs, evP, evB, intsOf, fillC, Value.cells, pt, List.append_nil, List.nil_append, List.cons_append, List.length_cons, List.length_nil, List.filter_nil, List.map_nil, ↓List.getElem?_cons_zero, ↓List.getElem?_cons_succ, List.getElem?_cons_zero, List.getElem?_cons_succ, List.set_cons_zero, List.set_cons_succ, Option.join_some, Option.join_none, Option.map_some, List.all_cons, List.all_nil, Value.oneCell', reduceIte, reduceCtorEq, Nat.reduceEqDiff, Nat.reduceAdd, Nat.reduceMul, Nat.reduceLT, Nat.reduceBEq, Nat.reduceLeDiff, Nat.reduceSub, List.size_toArray]) (fun _ h => by cases h) ⟨rfl, fun _ h => by cases h⟩)
  refine ITri.seq ?_
  have hfin := turns_4 n c l tol sx sy hn hn12
  generalize hjs : (conR l tol).getD [] = js at hfin
  refine ITri.cut (fun _ : Unit => [(2, pt 2), (9, pt 3), (10, .int .i64 (turnF l tol).2.2), (11, .slice (some ⟨4, 0, none⟩) js.length openB), (12, .int .i64 (conE l tol))]) (fun _ => []) (fun _ => Hp 2 (m3 n c l tol sx sy [some (.cells ⟨[.int .i64 (turnF l tol).1, .int .i64 (turnF l tol).2.1], 1, false⟩), some (.cells ⟨rows eN js, 1, true⟩)])) (fun _ => True) ?_ (fun _ _ => ?_)
  · by_cases hn0 : n = 0
    · have hl0 : l = [] := List.eq_nil_of_length_eq_zero (by omega)
      subst hn0
      subst hl0
      have hc0 : conR [] tol = none := by unfold conR; rw [if_neg (by unfold ckT; simp)]
      obtain rfl : js = [] := by rw [← hjs, hc0]; rfl
      refine ITri.draw pokT ?_; simp -implicitDefEqProofs (disch := first | decide | exact of_eq_true (eq_true rfl) | omega | assumption) only [appK_0, rows_nil,  ↓vcD, vcE, evs, evP, evB, intsOf, fillC, Value.cells, pt, List.append_nil, List.nil_append, List.cons_append, List.length_cons, List.length_nil, List.filter_nil, List.map_nil, ↓List.getElem?_cons_zero, ↓List.getElem?_cons_succ, List.getElem?_cons_zero, List.getElem?_cons_succ, List.set_cons_zero, List.set_cons_succ, Option.join_some, Option.join_none, Option.map_some, List.all_cons, List.all_nil, Value.oneCell', reduceIte, reduceCtorEq, Nat.reduceEqDiff, Nat.reduceAdd, Nat.reduceMul, Nat.reduceLT, Nat.reduceBEq, Nat.reduceLeDiff, Nat.reduceSub, List.size_toArray] -- r15
      refine ⟨_, _, conflict_f 0 [] tol rfl (sees0 rfl (of_decide_eq_true rfl)) (Rd.hq rfl rfl), ?_⟩
      simp only [hc0, slO, rowO, AH.news, List.foldl_nil]
      try simp -implicitDefEqProofs (disch := first | decide | exact of_eq_true (eq_true rfl) | omega | assumption) only [ ↓vcD, vcE, evs, evP, evB, intsOf, fillC, Value.cells, pt, List.append_nil, List.nil_append, List.cons_append, List.length_cons, List.length_nil, List.filter_nil, List.map_nil, ↓List.getElem?_cons_zero, ↓List.getElem?_cons_succ, List.getElem?_cons_zero, List.getElem?_cons_succ, List.set_cons_zero, List.set_cons_succ, Option.join_some, Option.join_none, Option.map_some, List.all_cons, List.all_nil, Value.oneCell', reduceIte, reduceCtorEq, Nat.reduceEqDiff, Nat.reduceAdd, Nat.reduceMul, Nat.reduceLT, Nat.reduceBEq, Nat.reduceLeDiff, Nat.reduceSub, List.size_toArray]
      exact CutQ.mk () trivial (Wk.gc [0, 1, 2, 3, 4] [(4, .nil)] (of_decide_eq_true rfl) (of_decide_eq_true rfl) rfl rfl (of_decide_eq_true rfl) rfl rfl (by repeat (first | exact xiOK_nil | refine xiOK_cons (by first | trivial | exact roomOK _ (by decide)) ?_)) rfl (by simp -implicitDefEqProofs (disch := first | decide | exact of_eq_true (eq_true rfl) | omega | assumption) only [rows_nil, objOK, sgL, xiL, objAt, nilO, OM, mvL, mv, mvS, okS, okP, mvL_rows, okML, okM, okML_rows, List.getElem?_cons_zero, Option.getD_some, implies_true, imp_self, ne_eq, and_self, true_or, or_true, Nat.zero_mul, Nat.sub_self, openB_self, ↓vcD, vcE, evs, evP, evB, intsOf, fillC, Value.cells, pt, List.append_nil, List.nil_append, List.cons_append, List.length_cons, List.length_nil, List.filter_nil, List.map_nil, ↓List.getElem?_cons_zero, ↓List.getElem?_cons_succ, List.getElem?_cons_zero, List.getElem?_cons_succ, List.set_cons_zero, List.set_cons_succ, Option.join_some, Option.join_none, Option.map_some, List.all_cons, List.all_nil, Value.oneCell', reduceIte, reduceCtorEq, Nat.reduceEqDiff, Nat.reduceAdd, Nat.reduceMul, Nat.reduceLT, Nat.reduceBEq, Nat.reduceLeDiff, Nat.reduceSub, List.size_toArray]) (by simp -implicitDefEqProofs (disch := first | decide | exact of_eq_true (eq_true rfl) | omega | assumption) only [rows_nil, valOK, sgL, xiL, mv, mvA, mvL, mvS, okS, okP, okM, okMA, okML, Option.getD_some, implies_true, and_self, true_or, or_true, Int.natCast_add, Int.cast_ofNat_Int, Nat.zero_mul, Nat.sub_self, openB_self, ↓vcD, vcE, evs, evP, evB, intsOf, fillC, Value.cells, pt, List.append_nil, List.nil_append, List.cons_append, List.length_cons, List.length_nil, List.filter_nil, List.map_nil, ↓List.getElem?_cons_zero, ↓List.getElem?_cons_succ, List.getElem?_cons_zero, List.getElem?_cons_succ, List.set_cons_zero, List.set_cons_succ, Option.join_some, Option.join_none, Option.map_some, List.all_cons, List.all_nil, Value.oneCell', reduceIte, reduceCtorEq, Nat.reduceEqDiff, Nat.reduceAdd, Nat.reduceMul, Nat.reduceLT, Nat.reduceBEq, Nat.reduceLeDiff, Nat.reduceSub, List.size_toArray]) (fun _ h => by cases h) ⟨rfl, fun _ h => by cases h⟩)
    · refine ITri.draw pokT ?_; simp -implicitDefEqProofs (disch := first | decide | exact of_eq_true (eq_true rfl) | omega | assumption) only [htkA, hlen, rows_allT,  ↓vcD, vcE, evs, evP, evB, intsOf, fillC, Value.cells, pt, List.append_nil, List.nil_append, List.cons_append, List.length_cons, List.length_nil, List.filter_nil, List.map_nil, ↓List.getElem?_cons_zero, ↓List.getElem?_cons_succ, List.getElem?_cons_zero, List.getElem?_cons_succ, List.set_cons_zero, List.set_cons_succ, Option.join_some, Option.join_none, Option.map_some, List.all_cons, List.all_nil, Value.oneCell', reduceIte, reduceCtorEq, Nat.reduceEqDiff, Nat.reduceAdd, Nat.reduceMul, Nat.reduceLT, Nat.reduceBEq, Nat.reduceLeDiff, Nat.reduceSub, List.size_toArray] -- r15
      refine ⟨_, _, conflict_f n l tol hn (sees0 rfl (of_decide_eq_true rfl)) (Rd.hq rfl rfl), ?_⟩
      cases hcr : conR l tol with
      | none =>
        obtain rfl : js = [] := by rw [← hjs, hcr]; rfl
        simp only [slO, rowO, AH.news, List.foldl_nil]
        try simp -implicitDefEqProofs (disch := first | decide | exact of_eq_true (eq_true rfl) | omega | assumption) only [ ↓vcD, vcE, evs, evP, evB, intsOf, fillC, Value.cells, pt, List.append_nil, List.nil_append, List.cons_append, List.length_cons, List.length_nil, List.filter_nil, List.map_nil, ↓List.getElem?_cons_zero, ↓List.getElem?_cons_succ, List.getElem?_cons_zero, List.getElem?_cons_succ, List.set_cons_zero, List.set_cons_succ, Option.join_some, Option.join_none, Option.map_some, List.all_cons, List.all_nil, Value.oneCell', reduceIte, reduceCtorEq, Nat.reduceEqDiff, Nat.reduceAdd, Nat.reduceMul, Nat.reduceLT, Nat.reduceBEq, Nat.reduceLeDiff, Nat.reduceSub, List.size_toArray]
        exact CutQ.mk () trivial (Wk.gc [0, 1, 2, 3, 4] [(4, .nil)] (of_decide_eq_true rfl) (of_decide_eq_true rfl) rfl rfl (of_decide_eq_true rfl) rfl rfl (by repeat (first | exact xiOK_nil | refine xiOK_cons (by first | trivial | exact roomOK _ (by decide)) ?_)) rfl (by simp -implicitDefEqProofs (disch := first | decide | exact of_eq_true (eq_true rfl) | omega | assumption) only [rows_nil, objOK, sgL, xiL, objAt, nilO, OM, mvL, mv, mvS, okS, okP, mvL_rows, okML, okM, okML_rows, List.getElem?_cons_zero, Option.getD_some, implies_true, imp_self, ne_eq, and_self, true_or, or_true, Nat.zero_mul, Nat.sub_self, openB_self, ↓vcD, vcE, evs, evP, evB, intsOf, fillC, Value.cells, pt, List.append_nil, List.nil_append, List.cons_append, List.length_cons, List.length_nil, List.filter_nil, List.map_nil, ↓List.getElem?_cons_zero, ↓List.getElem?_cons_succ, List.getElem?_cons_zero, List.getElem?_cons_succ, List.set_cons_zero, List.set_cons_succ, Option.join_some, Option.join_none, Option.map_some, List.all_cons, List.all_nil, Value.oneCell', reduceIte, reduceCtorEq, Nat.reduceEqDiff, Nat.reduceAdd, Nat.reduceMul, Nat.reduceLT, Nat.reduceBEq, Nat.reduceLeDiff, Nat.reduceSub, List.size_toArray]) (by simp -implicitDefEqProofs (disch := first | decide | exact of_eq_true (eq_true rfl) | omega | assumption) only [rows_nil, valOK, sgL, xiL, mv, mvA, mvL, mvS, okS, okP, okM, okMA, okML, Option.getD_some, implies_true, and_self, true_or, or_true, Int.natCast_add, Int.cast_ofNat_Int, Nat.zero_mul, Nat.sub_self, openB_self, ↓vcD, vcE, evs, evP, evB, intsOf, fillC, Value.cells, pt, List.append_nil, List.nil_append, List.cons_append, List.length_cons, List.length_nil, List.filter_nil, List.map_nil, ↓List.getElem?_cons_zero, ↓List.getElem?_cons_succ, List.getElem?_cons_zero, List.getElem?_cons_succ, List.set_cons_zero, List.set_cons_succ, Option.join_some, Option.join_none, Option.map_some, List.all_cons, List.all_nil, Value.oneCell', reduceIte, reduceCtorEq, Nat.reduceEqDiff, Nat.reduceAdd, Nat.reduceMul, Nat.reduceLT, Nat.reduceBEq, Nat.reduceLeDiff, Nat.reduceSub, List.size_toArray]) (fun _ h => by cases h) ⟨rfl, fun _ h => by cases h⟩)
      | some r =>
        obtain rfl : r = js := by rw [← hjs, hcr]; rfl
        simp only [slO, rowO]
        rw [Hq_news]
        simp only [List.map_cons, List.map_nil]
        try simp -implicitDefEqProofs (disch := first | decide | exact of_eq_true (eq_true rfl) | omega | assumption) only [ ↓vcD, vcE, evs, evP, evB, intsOf, fillC, Value.cells, pt, List.append_nil, List.nil_append, List.cons_append, List.length_cons, List.length_nil, List.filter_nil, List.map_nil, ↓List.getElem?_cons_zero, ↓List.getElem?_cons_succ, List.getElem?_cons_zero, List.getElem?_cons_succ, List.set_cons_zero, List.set_cons_succ, Option.join_some, Option.join_none, Option.map_some, List.all_cons, List.all_nil, Value.oneCell', reduceIte, reduceCtorEq, Nat.reduceEqDiff, Nat.reduceAdd, Nat.reduceMul, Nat.reduceLT, Nat.reduceBEq, Nat.reduceLeDiff, Nat.reduceSub, List.size_toArray]
        exact CutQ.mk () trivial (Wk.gc [0, 1, 2, 3, 6] [] (of_decide_eq_true rfl) (of_decide_eq_true rfl) rfl rfl (of_decide_eq_true rfl) rfl rfl (by repeat (first | exact xiOK_nil | refine xiOK_cons (by first | trivial | exact roomOK _ (by decide)) ?_)) rfl (by simp -implicitDefEqProofs (disch := first | decide | exact of_eq_true (eq_true rfl) | omega | assumption) only [ objOK, sgL, xiL, objAt, nilO, OM, mvL, mv, mvS, okS, okP, mvL_rows, okML, okM, okML_rows, List.getElem?_cons_zero, Option.getD_some, implies_true, imp_self, ne_eq, and_self, true_or, or_true, Nat.zero_mul, Nat.sub_self, openB_self, ↓vcD, vcE, evs, evP, evB, intsOf, fillC, Value.cells, pt, List.append_nil, List.nil_append, List.cons_append, List.length_cons, List.length_nil, List.filter_nil, List.map_nil, ↓List.getElem?_cons_zero, ↓List.getElem?_cons_succ, List.getElem?_cons_zero, List.getElem?_cons_succ, List.set_cons_zero, List.set_cons_succ, Option.join_some, Option.join_none, Option.map_some, List.all_cons, List.all_nil, Value.oneCell', reduceIte, reduceCtorEq, Nat.reduceEqDiff, Nat.reduceAdd, Nat.reduceMul, Nat.reduceLT, Nat.reduceBEq, Nat.reduceLeDiff, Nat.reduceSub, List.size_toArray]) (by simp -implicitDefEqProofs (disch := first | decide | exact of_eq_true (eq_true rfl) | omega | assumption) only [ valOK, sgL, xiL, mv, mvA, mvL, mvS, okS, okP, okM, okMA, okML, Option.getD_some, implies_true, and_self, true_or, or_true, Int.natCast_add, Int.cast_ofNat_Int, Nat.zero_mul, Nat.sub_self, openB_self, ↓vcD, vcE, evs, evP, evB, intsOf, fillC, Value.cells, pt, List.append_nil, List.nil_append, List.cons_append, List.length_cons, List.length_nil, List.filter_nil, List.map_nil, ↓List.getElem?_cons_zero, ↓List.getElem?_cons_succ, List.getElem?_cons_zero, List.getElem?_cons_succ, List.set_cons_zero, List.set_cons_succ, Option.join_some, Option.join_none, Option.map_some, List.all_cons, List.all_nil, Value.oneCell', reduceIte, reduceCtorEq, Nat.reduceEqDiff, Nat.reduceAdd, Nat.reduceMul, Nat.reduceLT, Nat.reduceBEq, Nat.reduceLeDiff, Nat.reduceSub, List.size_toArray]) (fun _ h => by cases h) ⟨rfl, fun _ h => by cases h⟩)
  subst hjs
  exact hfin
set_option maxHeartbeats 1000000 in
theorem turns_c (n c : Nat) (l : List Tl) (tol sx sy : Int) (t : Tl) (hn : l.length = n) :
    Fc Try.prog 10 [.agg ⟨xV n c tol sx sy⟩, tV t] (mT (rows eT l)) (.bool true) (mT (rows eT l)) := by
  have hob : 1 < openB := by unfold openB; omega
  refine Fc.intro0 fn10 (by simp) rfl rfl ?_; simp only [argF]
  refine ITri.seq ?_
  refine ITri.reg pokT ?_; simp -implicitDefEqProofs (disch := first | decide | exact of_eq_true (eq_true rfl) | omega | assumption) only [ ↓vcD, vcE, evs, evP, evB, intsOf, fillC, Value.cells, pt, List.append_nil, List.nil_append, List.cons_append, List.length_cons, List.length_nil, List.filter_nil, List.map_nil, ↓List.getElem?_cons_zero, ↓List.getElem?_cons_succ, List.getElem?_cons_zero, List.getElem?_cons_succ, List.set_cons_zero, List.set_cons_succ, Option.join_some, Option.join_none, Option.map_some, List.all_cons, List.all_nil, Value.oneCell', reduceIte, reduceCtorEq, Nat.reduceEqDiff, Nat.reduceAdd, Nat.reduceMul, Nat.reduceLT, Nat.reduceBEq, Nat.reduceLeDiff, Nat.reduceSub, List.size_toArray] -- r0 law.go:223
  refine ITri.seq ?_
  refine ITri.seq ?_
  refine ITri.reg pokT ?_; simp -implicitDefEqProofs (disch := first | decide | exact of_eq_true (eq_true rfl) | omega | assumption) only [ ↓vcD, vcE, evs, evP, evB, intsOf, fillC, Value.cells, pt, List.append_nil, List.nil_append, List.cons_append, List.length_cons, List.length_nil, List.filter_nil, List.map_nil, ↓List.getElem?_cons_zero, ↓List.getElem?_cons_succ, List.getElem?_cons_zero, List.getElem?_cons_succ, List.set_cons_zero, List.set_cons_succ, Option.join_some, Option.join_none, Option.map_some, List.all_cons, List.all_nil, Value.oneCell', reduceIte, reduceCtorEq, Nat.reduceEqDiff, Nat.reduceAdd, Nat.reduceMul, Nat.reduceLT, Nat.reduceBEq, Nat.reduceLeDiff, Nat.reduceSub, List.size_toArray] -- r1 law.go:224
  refine ITri.condD (by rfl) (fun h1 => ?_) (fun h1 => ?_) -- %22
  · refine ITri.seq ?_
    refine ITri.reg pokT ?_; simp -implicitDefEqProofs (disch := first | decide | exact of_eq_true (eq_true rfl) | omega | assumption) only [ ↓vcD, vcE, evs, evP, evB, intsOf, fillC, Value.cells, pt, List.append_nil, List.nil_append, List.cons_append, List.length_cons, List.length_nil, List.filter_nil, List.map_nil, ↓List.getElem?_cons_zero, ↓List.getElem?_cons_succ, List.getElem?_cons_zero, List.getElem?_cons_succ, List.set_cons_zero, List.set_cons_succ, Option.join_some, Option.join_none, Option.map_some, List.all_cons, List.all_nil, Value.oneCell', reduceIte, reduceCtorEq, Nat.reduceEqDiff, Nat.reduceAdd, Nat.reduceMul, Nat.reduceLT, Nat.reduceBEq, Nat.reduceLeDiff, Nat.reduceSub, List.size_toArray] -- r2 law.go:225 CALLS .call F14 []
    refine ⟨_, _, knownT, ?_⟩
    try simp -implicitDefEqProofs (disch := first | decide | exact of_eq_true (eq_true rfl) | omega | assumption) only [ ↓vcD, vcE, evs, evP, evB, intsOf, fillC, Value.cells, pt, List.append_nil, List.nil_append, List.cons_append, List.length_cons, List.length_nil, List.filter_nil, List.map_nil, ↓List.getElem?_cons_zero, ↓List.getElem?_cons_succ, List.getElem?_cons_zero, List.getElem?_cons_succ, List.set_cons_zero, List.set_cons_succ, Option.join_some, Option.join_none, Option.map_some, List.all_cons, List.all_nil, Value.oneCell', reduceIte, reduceCtorEq, Nat.reduceEqDiff, Nat.reduceAdd, Nat.reduceMul, Nat.reduceLT, Nat.reduceBEq, Nat.reduceLeDiff, Nat.reduceSub, List.size_toArray]
    refine ITri.ret ?_; exact EndR.plain (by simp) (by rfl) (by rfl) (by rfl)
  refine ITri.skip ?_; simp only [SeqQ_normal, BlkQ_normal]
  refine ITri.seq ?_
  refine ITri.reg pokT ?_; simp -implicitDefEqProofs (disch := first | decide | exact of_eq_true (eq_true rfl) | omega | assumption) only [ ↓vcD, vcE, evs, evP, evB, intsOf, fillC, Value.cells, pt, List.append_nil, List.nil_append, List.cons_append, List.length_cons, List.length_nil, List.filter_nil, List.map_nil, ↓List.getElem?_cons_zero, ↓List.getElem?_cons_succ, List.getElem?_cons_zero, List.getElem?_cons_succ, List.set_cons_zero, List.set_cons_succ, Option.join_some, Option.join_none, Option.map_some, List.all_cons, List.all_nil, Value.oneCell', reduceIte, reduceCtorEq, Nat.reduceEqDiff, Nat.reduceAdd, Nat.reduceMul, Nat.reduceLT, Nat.reduceBEq, Nat.reduceLeDiff, Nat.reduceSub, List.size_toArray] -- r3 law.go:227 CALLS .call F36 [%25, %27]
  refine ⟨_, _, off_f t sx sy (sees0 rfl (of_decide_eq_true rfl)), ?_⟩
  try simp -implicitDefEqProofs (disch := first | decide | exact of_eq_true (eq_true rfl) | omega | assumption) only [ ↓vcD, vcE, evs, evP, evB, intsOf, fillC, Value.cells, pt, List.append_nil, List.nil_append, List.cons_append, List.length_cons, List.length_nil, List.filter_nil, List.map_nil, ↓List.getElem?_cons_zero, ↓List.getElem?_cons_succ, List.getElem?_cons_zero, List.getElem?_cons_succ, List.set_cons_zero, List.set_cons_succ, Option.join_some, Option.join_none, Option.map_some, List.all_cons, List.all_nil, Value.oneCell', reduceIte, reduceCtorEq, Nat.reduceEqDiff, Nat.reduceAdd, Nat.reduceMul, Nat.reduceLT, Nat.reduceBEq, Nat.reduceLeDiff, Nat.reduceSub, List.size_toArray]
  refine ITri.seq ?_
  refine ITri.one (P := Try.prog) [(2, pt 2), (3, pt 3), (5, pt 4), (6, .int .i64 (offF t sx sy).2.2), (7, .bool (!(inT sx (-144000) 144000 && inT sy (-144000) 144000)))] ?_ ?_
  · unfold inT
    by_cases g1 : sx < -144000
    · refine ITri.reg pokT ?_; simp -implicitDefEqProofs (disch := first | decide | exact of_eq_true (eq_true rfl) | omega | assumption) only [g1, decide_true,  ↓vcD, vcE, evs, evP, evB, intsOf, fillC, Value.cells, pt, List.append_nil, List.nil_append, List.cons_append, List.length_cons, List.length_nil, List.filter_nil, List.map_nil, ↓List.getElem?_cons_zero, ↓List.getElem?_cons_succ, List.getElem?_cons_zero, List.getElem?_cons_succ, List.set_cons_zero, List.set_cons_succ, Option.join_some, Option.join_none, Option.map_some, List.all_cons, List.all_nil, Value.oneCell', reduceIte, reduceCtorEq, Nat.reduceEqDiff, Nat.reduceAdd, Nat.reduceMul, Nat.reduceLT, Nat.reduceBEq, Nat.reduceLeDiff, Nat.reduceSub, List.size_toArray]
      rw [decide_eq_false (show ¬ (-144000 : Int) ≤ sx by omega)]
      simp
    by_cases g2 : 144000 < sx
    · refine ITri.reg pokT ?_; simp -implicitDefEqProofs (disch := first | decide | exact of_eq_true (eq_true rfl) | omega | assumption) only [g1, g2, decide_true, decide_false,  ↓vcD, vcE, evs, evP, evB, intsOf, fillC, Value.cells, pt, List.append_nil, List.nil_append, List.cons_append, List.length_cons, List.length_nil, List.filter_nil, List.map_nil, ↓List.getElem?_cons_zero, ↓List.getElem?_cons_succ, List.getElem?_cons_zero, List.getElem?_cons_succ, List.set_cons_zero, List.set_cons_succ, Option.join_some, Option.join_none, Option.map_some, List.all_cons, List.all_nil, Value.oneCell', reduceIte, reduceCtorEq, Nat.reduceEqDiff, Nat.reduceAdd, Nat.reduceMul, Nat.reduceLT, Nat.reduceBEq, Nat.reduceLeDiff, Nat.reduceSub, List.size_toArray]
      rw [decide_eq_false (show ¬ sx ≤ (144000 : Int) by omega)]
      simp
    by_cases g3 : sy < -144000
    · refine ITri.reg pokT ?_; simp -implicitDefEqProofs (disch := first | decide | exact of_eq_true (eq_true rfl) | omega | assumption) only [g1, g2, g3, decide_true, decide_false,  ↓vcD, vcE, evs, evP, evB, intsOf, fillC, Value.cells, pt, List.append_nil, List.nil_append, List.cons_append, List.length_cons, List.length_nil, List.filter_nil, List.map_nil, ↓List.getElem?_cons_zero, ↓List.getElem?_cons_succ, List.getElem?_cons_zero, List.getElem?_cons_succ, List.set_cons_zero, List.set_cons_succ, Option.join_some, Option.join_none, Option.map_some, List.all_cons, List.all_nil, Value.oneCell', reduceIte, reduceCtorEq, Nat.reduceEqDiff, Nat.reduceAdd, Nat.reduceMul, Nat.reduceLT, Nat.reduceBEq, Nat.reduceLeDiff, Nat.reduceSub, List.size_toArray]
      rw [decide_eq_false (show ¬ (-144000 : Int) ≤ sy by omega)]
      simp
    by_cases g4 : 144000 < sy
    · refine ITri.reg pokT ?_; simp -implicitDefEqProofs (disch := first | decide | exact of_eq_true (eq_true rfl) | omega | assumption) only [g1, g2, g3, g4, decide_true, decide_false,  ↓vcD, vcE, evs, evP, evB, intsOf, fillC, Value.cells, pt, List.append_nil, List.nil_append, List.cons_append, List.length_cons, List.length_nil, List.filter_nil, List.map_nil, ↓List.getElem?_cons_zero, ↓List.getElem?_cons_succ, List.getElem?_cons_zero, List.getElem?_cons_succ, List.set_cons_zero, List.set_cons_succ, Option.join_some, Option.join_none, Option.map_some, List.all_cons, List.all_nil, Value.oneCell', reduceIte, reduceCtorEq, Nat.reduceEqDiff, Nat.reduceAdd, Nat.reduceMul, Nat.reduceLT, Nat.reduceBEq, Nat.reduceLeDiff, Nat.reduceSub, List.size_toArray]
      rw [decide_eq_false (show ¬ sy ≤ (144000 : Int) by omega)]
      simp
    · refine ITri.reg pokT ?_; simp -implicitDefEqProofs (disch := first | decide | exact of_eq_true (eq_true rfl) | omega | assumption) only [g1, g2, g3, g4, decide_true, decide_false,  ↓vcD, vcE, evs, evP, evB, intsOf, fillC, Value.cells, pt, List.append_nil, List.nil_append, List.cons_append, List.length_cons, List.length_nil, List.filter_nil, List.map_nil, ↓List.getElem?_cons_zero, ↓List.getElem?_cons_succ, List.getElem?_cons_zero, List.getElem?_cons_succ, List.set_cons_zero, List.set_cons_succ, Option.join_some, Option.join_none, Option.map_some, List.all_cons, List.all_nil, Value.oneCell', reduceIte, reduceCtorEq, Nat.reduceEqDiff, Nat.reduceAdd, Nat.reduceMul, Nat.reduceLT, Nat.reduceBEq, Nat.reduceLeDiff, Nat.reduceSub, List.size_toArray]
      rw [decide_eq_true (show (-144000 : Int) ≤ sx by omega), decide_eq_true (show sx ≤ (144000 : Int) by omega), decide_eq_true (show (-144000 : Int) ≤ sy by omega), decide_eq_true (show sy ≤ (144000 : Int) by omega)]
      simp
  refine ITri.seq ?_
  refine ITri.cut (fun _ : Unit => [(2, pt 2)]) (fun _ => []) (fun _ => Hp 2 (m3 n c l tol sx sy [])) (fun _ => True) ?_ (fun _ _ => ?_)
  · refine ITri.block ?_ -- 0
    refine ITri.seq ?_
    refine ITri.reg pokT ?_; simp -implicitDefEqProofs (disch := first | decide | exact of_eq_true (eq_true rfl) | omega | assumption) only [ ↓vcD, vcE, evs, evP, evB, intsOf, fillC, Value.cells, pt, List.append_nil, List.nil_append, List.cons_append, List.length_cons, List.length_nil, List.filter_nil, List.map_nil, ↓List.getElem?_cons_zero, ↓List.getElem?_cons_succ, List.getElem?_cons_zero, List.getElem?_cons_succ, List.set_cons_zero, List.set_cons_succ, Option.join_some, Option.join_none, Option.map_some, List.all_cons, List.all_nil, Value.oneCell', reduceIte, reduceCtorEq, Nat.reduceEqDiff, Nat.reduceAdd, Nat.reduceMul, Nat.reduceLT, Nat.reduceBEq, Nat.reduceLeDiff, Nat.reduceSub, List.size_toArray] -- r8 law.go:230 CALLS .call F37 [%88]
    refine ⟨_, _, refTilt_f t (sees0 rfl (of_decide_eq_true rfl)), ?_⟩
    have hD : ∀ X lf Q, lk lf 2 = some (pt 2) → CutQ 264 2 none (fun _ : Unit => [(2, pt 2)]) (fun _ => []) (fun _ => Hp 2 (m3 n c l tol sx sy [])) (fun _ => True) Q .normal lf [] (Hp 2 (m3 n c l tol sx sy X)) := fun X lf Q hl => CutQ.mk () trivial (Wk.gc [0, 1, 2] [] (of_decide_eq_true rfl) (by simp) rfl rfl (of_decide_eq_true rfl) rfl rfl (fun _ h => by cases h) rfl (by simp [objOK, objAt, OM, mvL, mv, mvS, okML, okM, okS, mvL_rows, okML_rows, sgL, xiL]) (by simp [valOK, xiL, hl]; exact ⟨rfl, show 2 < 3 by decide, trivial⟩) (fun _ h => by cases h) ⟨rfl, fun _ h => by cases h⟩)
    cases g1 : tltB t with
    | false =>
      have e0 : offF t sx sy = (0, 0, 2) := by unfold offF; rw [g1]; rfl
      simp -implicitDefEqProofs (disch := first | decide | exact of_eq_true (eq_true rfl) | omega | assumption) only [g1, e0,  ↓vcD, vcE, evs, evP, evB, intsOf, fillC, Value.cells, pt, List.append_nil, List.nil_append, List.cons_append, List.length_cons, List.length_nil, List.filter_nil, List.map_nil, ↓List.getElem?_cons_zero, ↓List.getElem?_cons_succ, List.getElem?_cons_zero, List.getElem?_cons_succ, List.set_cons_zero, List.set_cons_succ, Option.join_some, Option.join_none, Option.map_some, List.all_cons, List.all_nil, Value.oneCell', reduceIte, reduceCtorEq, Nat.reduceEqDiff, Nat.reduceAdd, Nat.reduceMul, Nat.reduceLT, Nat.reduceBEq, Nat.reduceLeDiff, Nat.reduceSub, List.size_toArray]
      refine ITri.cond (v := true) rfl (fun _ => ?_) (fun h => by cases h)
      refine ITri.seq ?_
      refine ITri.reg pokT ?_; simp -implicitDefEqProofs (disch := first | decide | exact of_eq_true (eq_true rfl) | omega | assumption) only [decide_true, decide_false,  ↓vcD, vcE, evs, evP, evB, intsOf, fillC, Value.cells, pt, List.append_nil, List.nil_append, List.cons_append, List.length_cons, List.length_nil, List.filter_nil, List.map_nil, ↓List.getElem?_cons_zero, ↓List.getElem?_cons_succ, List.getElem?_cons_zero, List.getElem?_cons_succ, List.set_cons_zero, List.set_cons_succ, Option.join_some, Option.join_none, Option.map_some, List.all_cons, List.all_nil, Value.oneCell', reduceIte, reduceCtorEq, Nat.reduceEqDiff, Nat.reduceAdd, Nat.reduceMul, Nat.reduceLT, Nat.reduceBEq, Nat.reduceLeDiff, Nat.reduceSub, List.size_toArray]
      refine ITri.cond (v := false) rfl (fun h => by cases h) (fun _ => ?_); refine ITri.skip ?_; simp only [SeqQ_normal, BlkQ_normal]
      exact hD _ _ _ rfl
    | true =>
      have hb := tlt_ok g1
      simp -implicitDefEqProofs (disch := first | decide | exact of_eq_true (eq_true rfl) | omega | assumption) only [g1,  ↓vcD, vcE, evs, evP, evB, intsOf, fillC, Value.cells, pt, List.append_nil, List.nil_append, List.cons_append, List.length_cons, List.length_nil, List.filter_nil, List.map_nil, ↓List.getElem?_cons_zero, ↓List.getElem?_cons_succ, List.getElem?_cons_zero, List.getElem?_cons_succ, List.set_cons_zero, List.set_cons_succ, Option.join_some, Option.join_none, Option.map_some, List.all_cons, List.all_nil, Value.oneCell', reduceIte, reduceCtorEq, Nat.reduceEqDiff, Nat.reduceAdd, Nat.reduceMul, Nat.reduceLT, Nat.reduceBEq, Nat.reduceLeDiff, Nat.reduceSub, List.size_toArray]
      refine ITri.cond (v := false) rfl (fun h => by cases h) (fun _ => ?_)
      refine ITri.seq ?_
      refine ITri.reg pokT ?_; simp -implicitDefEqProofs (disch := first | decide | exact of_eq_true (eq_true rfl) | omega | assumption) only [ ↓vcD, vcE, evs, evP, evB, intsOf, fillC, Value.cells, pt, List.append_nil, List.nil_append, List.cons_append, List.length_cons, List.length_nil, List.filter_nil, List.map_nil, ↓List.getElem?_cons_zero, ↓List.getElem?_cons_succ, List.getElem?_cons_zero, List.getElem?_cons_succ, List.set_cons_zero, List.set_cons_succ, Option.join_some, Option.join_none, Option.map_some, List.all_cons, List.all_nil, Value.oneCell', reduceIte, reduceCtorEq, Nat.reduceEqDiff, Nat.reduceAdd, Nat.reduceMul, Nat.reduceLT, Nat.reduceBEq, Nat.reduceLeDiff, Nat.reduceSub, List.size_toArray]
      cases g2 : (inT sx (-144000) 144000 && inT sy (-144000) 144000) with
      | false =>
        have e0 : offF t sx sy = (0, 0, 3) := by unfold offF; rw [g1, g2]; rfl
        simp -implicitDefEqProofs (disch := first | decide | exact of_eq_true (eq_true rfl) | omega | assumption) only [g2, e0,  ↓vcD, vcE, evs, evP, evB, intsOf, fillC, Value.cells, pt, List.append_nil, List.nil_append, List.cons_append, List.length_cons, List.length_nil, List.filter_nil, List.map_nil, ↓List.getElem?_cons_zero, ↓List.getElem?_cons_succ, List.getElem?_cons_zero, List.getElem?_cons_succ, List.set_cons_zero, List.set_cons_succ, Option.join_some, Option.join_none, Option.map_some, List.all_cons, List.all_nil, Value.oneCell', reduceIte, reduceCtorEq, Nat.reduceEqDiff, Nat.reduceAdd, Nat.reduceMul, Nat.reduceLT, Nat.reduceBEq, Nat.reduceLeDiff, Nat.reduceSub, List.size_toArray]
        refine ITri.cond (v := true) rfl (fun _ => ?_) (fun h => by cases h)
        refine ITri.seq ?_
        refine ITri.reg pokT ?_; simp -implicitDefEqProofs (disch := first | decide | exact of_eq_true (eq_true rfl) | omega | assumption) only [decide_true, decide_false,  ↓vcD, vcE, evs, evP, evB, intsOf, fillC, Value.cells, pt, List.append_nil, List.nil_append, List.cons_append, List.length_cons, List.length_nil, List.filter_nil, List.map_nil, ↓List.getElem?_cons_zero, ↓List.getElem?_cons_succ, List.getElem?_cons_zero, List.getElem?_cons_succ, List.set_cons_zero, List.set_cons_succ, Option.join_some, Option.join_none, Option.map_some, List.all_cons, List.all_nil, Value.oneCell', reduceIte, reduceCtorEq, Nat.reduceEqDiff, Nat.reduceAdd, Nat.reduceMul, Nat.reduceLT, Nat.reduceBEq, Nat.reduceLeDiff, Nat.reduceSub, List.size_toArray]
        refine ITri.cond (v := false) rfl (fun h => by cases h) (fun _ => ?_); refine ITri.skip ?_; simp only [SeqQ_normal, BlkQ_normal]
        exact hD _ _ _ rfl
      | true =>
        rw [Bool.and_eq_true] at g2
        have hx := inT_ok g2.1
        have hy := inT_ok g2.2
        have e0 : offF t sx sy = (leastF t.1 t.2.1 sx + leastF t.2.2.1 t.2.2.2 sy, mostF t.1 t.2.1 sx + mostF t.2.2.1 t.2.2.2 sy, 0) := by
          unfold offF
          rw [g1, g2.1, g2.2, aw_least (by omega), aw_least (by omega), aw_most (by omega), aw_most (by omega)]
          rfl
        rw [e0]
        obtain ⟨xl, xh, yl, yh⟩ := t
        simp only at hb ⊢
        have m1 : 0 ≤ leastF xl xh sx ∧ leastF xl xh sx ≤ 200000 ∧ 0 ≤ mostF xl xh sx ∧ mostF xl xh sx ≤ 200000 := by unfold leastF mostF absF; split <;> omega
        have m2 : 0 ≤ leastF yl yh sy ∧ leastF yl yh sy ≤ 200000 ∧ 0 ≤ mostF yl yh sy ∧ mostF yl yh sy ≤ 200000 := by unfold leastF mostF absF; split <;> omega
        try simp -implicitDefEqProofs (disch := first | decide | exact of_eq_true (eq_true rfl) | omega | assumption) only [ ↓vcD, vcE, evs, evP, evB, intsOf, fillC, Value.cells, pt, List.append_nil, List.nil_append, List.cons_append, List.length_cons, List.length_nil, List.filter_nil, List.map_nil, ↓List.getElem?_cons_zero, ↓List.getElem?_cons_succ, List.getElem?_cons_zero, List.getElem?_cons_succ, List.set_cons_zero, List.set_cons_succ, Option.join_some, Option.join_none, Option.map_some, List.all_cons, List.all_nil, Value.oneCell', reduceIte, reduceCtorEq, Nat.reduceEqDiff, Nat.reduceAdd, Nat.reduceMul, Nat.reduceLT, Nat.reduceBEq, Nat.reduceLeDiff, Nat.reduceSub, List.size_toArray]
        refine ITri.cond (v := false) rfl (fun h => by cases h) (fun _ => ?_)
        refine ITri.seq ?_
        refine ITri.draw pokT ?_; simp -implicitDefEqProofs (disch := first | decide | exact of_eq_true (eq_true rfl) | omega | assumption) only [ ↓vcD, vcE, evs, evP, evB, intsOf, fillC, Value.cells, pt, List.append_nil, List.nil_append, List.cons_append, List.length_cons, List.length_nil, List.filter_nil, List.map_nil, ↓List.getElem?_cons_zero, ↓List.getElem?_cons_succ, List.getElem?_cons_zero, List.getElem?_cons_succ, List.set_cons_zero, List.set_cons_succ, Option.join_some, Option.join_none, Option.map_some, List.all_cons, List.all_nil, Value.oneCell', reduceIte, reduceCtorEq, Nat.reduceEqDiff, Nat.reduceAdd, Nat.reduceMul, Nat.reduceLT, Nat.reduceBEq, Nat.reduceLeDiff, Nat.reduceSub, List.size_toArray] -- r5
        refine ⟨_, _, refLeast_f xl xh sx (by omega) (by omega) hx (sees0 rfl (of_decide_eq_true rfl)), ?_⟩
        try simp -implicitDefEqProofs (disch := first | decide | exact of_eq_true (eq_true rfl) | omega | assumption) only [ ↓vcD, vcE, evs, evP, evB, intsOf, fillC, Value.cells, pt, List.append_nil, List.nil_append, List.cons_append, List.length_cons, List.length_nil, List.filter_nil, List.map_nil, ↓List.getElem?_cons_zero, ↓List.getElem?_cons_succ, List.getElem?_cons_zero, List.getElem?_cons_succ, List.set_cons_zero, List.set_cons_succ, Option.join_some, Option.join_none, Option.map_some, List.all_cons, List.all_nil, Value.oneCell', reduceIte, reduceCtorEq, Nat.reduceEqDiff, Nat.reduceAdd, Nat.reduceMul, Nat.reduceLT, Nat.reduceBEq, Nat.reduceLeDiff, Nat.reduceSub, List.size_toArray]
        refine ⟨_, _, refLeast_f yl yh sy (by omega) (by omega) hy (sees0 rfl (of_decide_eq_true rfl)), ?_⟩
        try simp -implicitDefEqProofs (disch := first | decide | exact of_eq_true (eq_true rfl) | omega | assumption) only [ ↓vcD, vcE, evs, evP, evB, intsOf, fillC, Value.cells, pt, List.append_nil, List.nil_append, List.cons_append, List.length_cons, List.length_nil, List.filter_nil, List.map_nil, ↓List.getElem?_cons_zero, ↓List.getElem?_cons_succ, List.getElem?_cons_zero, List.getElem?_cons_succ, List.set_cons_zero, List.set_cons_succ, Option.join_some, Option.join_none, Option.map_some, List.all_cons, List.all_nil, Value.oneCell', reduceIte, reduceCtorEq, Nat.reduceEqDiff, Nat.reduceAdd, Nat.reduceMul, Nat.reduceLT, Nat.reduceBEq, Nat.reduceLeDiff, Nat.reduceSub, List.size_toArray]
        refine ⟨_, _, refMost_f xl xh sx (by omega) (by omega) hx (sees0 rfl (of_decide_eq_true rfl)), ?_⟩
        try simp -implicitDefEqProofs (disch := first | decide | exact of_eq_true (eq_true rfl) | omega | assumption) only [ ↓vcD, vcE, evs, evP, evB, intsOf, fillC, Value.cells, pt, List.append_nil, List.nil_append, List.cons_append, List.length_cons, List.length_nil, List.filter_nil, List.map_nil, ↓List.getElem?_cons_zero, ↓List.getElem?_cons_succ, List.getElem?_cons_zero, List.getElem?_cons_succ, List.set_cons_zero, List.set_cons_succ, Option.join_some, Option.join_none, Option.map_some, List.all_cons, List.all_nil, Value.oneCell', reduceIte, reduceCtorEq, Nat.reduceEqDiff, Nat.reduceAdd, Nat.reduceMul, Nat.reduceLT, Nat.reduceBEq, Nat.reduceLeDiff, Nat.reduceSub, List.size_toArray]
        refine ⟨_, _, refMost_f yl yh sy (by omega) (by omega) hy (sees0 rfl (of_decide_eq_true rfl)), ?_⟩
        try simp -implicitDefEqProofs (disch := first | decide | exact of_eq_true (eq_true rfl) | omega | assumption) only [ ↓vcD, vcE, evs, evP, evB, intsOf, fillC, Value.cells, pt, List.append_nil, List.nil_append, List.cons_append, List.length_cons, List.length_nil, List.filter_nil, List.map_nil, ↓List.getElem?_cons_zero, ↓List.getElem?_cons_succ, List.getElem?_cons_zero, List.getElem?_cons_succ, List.set_cons_zero, List.set_cons_succ, Option.join_some, Option.join_none, Option.map_some, List.all_cons, List.all_nil, Value.oneCell', reduceIte, reduceCtorEq, Nat.reduceEqDiff, Nat.reduceAdd, Nat.reduceMul, Nat.reduceLT, Nat.reduceBEq, Nat.reduceLeDiff, Nat.reduceSub, List.size_toArray]
        refine ITri.seq ?_
        refine ITri.reg pokT ?_; simp -implicitDefEqProofs (disch := first | decide | exact of_eq_true (eq_true rfl) | omega | assumption) only [eq_same, eq_self, decide_true, decide_false,  ↓vcD, vcE, evs, evP, evB, intsOf, fillC, Value.cells, pt, List.append_nil, List.nil_append, List.cons_append, List.length_cons, List.length_nil, List.filter_nil, List.map_nil, ↓List.getElem?_cons_zero, ↓List.getElem?_cons_succ, List.getElem?_cons_zero, List.getElem?_cons_succ, List.set_cons_zero, List.set_cons_succ, Option.join_some, Option.join_none, Option.map_some, List.all_cons, List.all_nil, Value.oneCell', reduceIte, reduceCtorEq, Nat.reduceEqDiff, Nat.reduceAdd, Nat.reduceMul, Nat.reduceLT, Nat.reduceBEq, Nat.reduceLeDiff, Nat.reduceSub, List.size_toArray]
        refine ITri.cond (v := false) rfl (fun h => by cases h) (fun _ => ?_); refine ITri.skip ?_; simp only [SeqQ_normal, BlkQ_normal]
        exact hD _ _ _ rfl
  exact turns_3 n c l tol sx sy hn (by omega)
end Go.Proofs.Ytlkfcbdbieenhaa
