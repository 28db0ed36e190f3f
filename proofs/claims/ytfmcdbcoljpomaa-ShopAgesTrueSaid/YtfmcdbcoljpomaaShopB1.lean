/-
  Chapter 11, by names: the law ShopAgesTrue: what is worn in truth lies between.
-/
import Derived.Test.YtfmcdbcoljpomaaShopA3
set_option linter.unusedSimpArgs false
set_option linter.unusedVariables false
namespace Go.Proofs.Ytfmcdbcoljpomaa
open Go.RowKit Go.Vm
set_option maxRecDepth 100000

/-- A run is not behind another one. -/
theorem ov_soon {p q : Nat → Bool} : ∀ n, (∀ k, k < n → p k = true → q k = true) → ovI p n < 0 ∨ 0 ≤ ovI q n ∧ ovI q n ≤ ovI p n
  | 0, _ => .inl (by simp [ovI])
  | n + 1, h => by
    have ih := ov_soon n fun k hk => h k (by omega)
    have r1 := ov_rng q n
    rw [ovI, ovI]
    by_cases h1 : ovI p n < 0
    · by_cases h2 : p n = true
      · have h3 := h n (by omega) h2
        rw [if_pos ⟨h1, h2⟩]
        by_cases h4 : ovI q n < 0
        · rw [if_pos ⟨h4, h3⟩]
          omega
        · rw [if_neg (fun hc => h4 hc.1)]
          omega
      · rw [if_neg (fun hc => h2 hc.2)]
        exact .inl h1
    · rw [if_neg (fun hc => h1 hc.1)]
      by_cases h4 : ovI q n < 0
      · omega
      · rw [if_neg (fun hc => h4 hc.1)]
        exact ih
abbrev eU (n : Int) : List Value := [.int .u16 n]
instance flU : FlatE eU 1 := ⟨fun _ => rfl, fun _ => rfl, fun _ => rfl⟩
/-- What a run truly wears. -/
def tB (ts : List Int) (k : Nat) : Int := if ts.length = 0 then 0 else nth ts (k % ts.length)
def wB (r : Rg) (b : Int) : Int := if r.1 < r.2 then b % (r.2 - r.1 + 1) else 0
def sT (ts : List Int) (wear : List Rg) (runs : List Int) : Nat → Int
  | 0 => 0
  | k + 1 => sT ts wear runs k + wB (nth wear (nth runs k).toNat) (tB ts k) + (nth wear (nth runs k).toNat).1
theorem wB_bd {r : Rg} {b : Int} (h : r.1 ≤ r.2) : 0 ≤ wB r b ∧ wB r b + r.1 ≤ r.2 := by
  unfold wB
  split
  · have h1 := Int.emod_nonneg b (show r.2 - r.1 + 1 ≠ 0 by omega)
    have h2 := Int.emod_lt_of_pos b (show 0 < r.2 - r.1 + 1 by omega)
    omega
  · omega
theorem sT_bd {ts : List Int} {wear : List Rg} {runs : List Int} (hg : ∀ r ∈ wear, 0 ≤ r.1 ∧ r.1 ≤ r.2 ∧ r.2 ≤ 1000000) (hr : ∀ k ∈ runs, 0 ≤ k ∧ k < wear.length) : ∀ n, n ≤ runs.length → sW (·.1) wear runs n ≤ sT ts wear runs n ∧ sT ts wear runs n ≤ sW (·.2) wear runs n
  | 0, _ => by simp [sW, sT]
  | n + 1, hn => by
    have ih := sT_bd (ts := ts) hg hr n (by omega)
    have h1 := hr _ (nth_mem (show n < runs.length by omega))
    have h2 := hg _ (nth_mem (show (nth runs n).toNat < wear.length by omega))
    have h3 := wB_bd (b := tB ts n) h2.2.1
    rw [sW, sW, sT]
    omega
theorem ag_next {life : Int} {wear : List Rg} {runs : List Int} (h : agE life wear runs = 0) (h2 : life < 1000000) : agE (life + 1) wear runs = 0 := by
  have h0 := (ag_ok h).2.2.1
  have i1 : inT life 0 1000000 = true := by
    unfold inT
    rw [decide_eq_true h0.1, decide_eq_true h0.2]
    rfl
  have i2 : inT (life + 1) 0 1000000 = true := by
    unfold inT
    rw [decide_eq_true (show 0 ≤ life + 1 by omega), decide_eq_true (show life + 1 ≤ 1000000 by omega)]
    rfl
  unfold agE at h ⊢
  rw [i1] at h
  rw [i2]
  exact h
/- boule/boulelaw11.ShopAgesTrue · slots 182 · names 0:in 1:wear 2:runs 3:in 4:wear 5:runs 7:maybe 8:surely 9:e 10:sum 11:first 12:i 13:r 14:by 15:m 16:s · results [6] -/
def ir7_r0 : IC := .reg [⟨some 3, none, false, .box (.t 0)⟩,
  ⟨some 6, none, false, .mv (.k (.bool false))⟩] (some [1, 2, 3])
def ir7_r1 : IC := .reg [⟨some 17, none, false, .mv (.t 1)⟩,
  ⟨some 18, none, false, .len (.t 17)⟩,
  ⟨some 19, none, false, .cmp .gtr (.t 18) (.k (.int .i64 8))⟩,
  ⟨some 20, none, false, .mv (.t 19)⟩,
  ⟨some 21, some (20, false), false, .mv (.t 2)⟩,
  ⟨some 22, some (20, false), false, .len (.t 21)⟩,
  ⟨some 23, some (20, false), false, .cmp .gtr (.t 22) (.k (.int .i64 500))⟩,
  ⟨some 24, none, false, .pick (.t 20) (.k (.bool true)) (.t 23)⟩] (some [1, 2, 3, 24])
def ir7_r2 : IC := .reg [⟨some 25, none, false, .call (.f 12) []⟩,
  ⟨some 6, none, false, .mv (.t 25)⟩] (some [6])
def ir7_1 : IC := .seq ir7_r2 .ret
def ir7_2 : IC := .cond (.t 24) ir7_1 .skip
def ir7_3 : IC := .seq ir7_r1 ir7_2
def ir7_r3 : IC := .draw [(⟨some 27, none, false, .fad 0 (.t 3)⟩, false, 0, 0),
  (⟨some 28, none, false, .ldc (.t 27)⟩, false, 1, 1),
  (⟨some 29, none, false, .bsl 2 0 [] []⟩, false, 0, 2),
  (⟨some 30, none, false, .mv (.t 1)⟩, false, 0, 0),
  (⟨some 31, none, false, .app 2 16 (.t 29) (.t 30)⟩, false, 12, 2),
  (⟨some 32, none, false, .bsl 1 0 [] []⟩, false, 0, 14),
  (⟨some 33, none, false, .mv (.t 2)⟩, false, 0, 0),
  (⟨some 34, none, false, .app 1 8 (.t 32) (.t 33)⟩, false, 124, 2),
  (⟨some 35, none, false, .call (.f 18) [(.t 28), (.t 31), (.t 34)]⟩, true, 255, 1),
  (⟨some 26, none, false, .mv (.t 35)⟩, false, 511, 0),
  (⟨some 36, none, false, .ext (.t 26) 0⟩, false, 1023, 0),
  (⟨some 37, none, false, .ext (.t 26) 1⟩, false, 1023, 0),
  (⟨some 38, none, false, .ext (.t 26) 2⟩, false, 1023, 0),
  (⟨some 7, none, false, .mv (.t 36)⟩, false, 2047, 0),
  (⟨some 8, none, false, .mv (.t 37)⟩, false, 12287, 0),
  (⟨some 9, none, false, .mv (.t 38)⟩, false, 32767, 0)] (some [1, 2, 3, 7, 8, 9])
def ir7_r4 : IC := .reg [⟨some 39, none, false, .mv (.t 9)⟩,
  ⟨some 40, none, false, .cmp .neq (.t 39) (.k (.int .i64 0))⟩] (some [1, 2, 3, 7, 8, 40])
def ir7_r5 : IC := .reg [⟨some 41, none, false, .mv (.t 7)⟩,
  ⟨some 42, none, false, .cmp .eql (.t 41) (.k (.int .i64 0))⟩,
  ⟨some 43, none, false, .mv (.t 42)⟩,
  ⟨some 44, some (43, true), false, .mv (.t 8)⟩,
  ⟨some 45, some (43, true), false, .cmp .eql (.t 44) (.k (.int .i64 0))⟩,
  ⟨some 46, none, false, .pick (.t 43) (.t 45) (.k (.bool false))⟩,
  ⟨some 47, none, false, .mv (.t 46)⟩,
  ⟨some 48, some (47, true), false, .call (.f 12) []⟩,
  ⟨some 49, none, false, .pick (.t 47) (.t 48) (.k (.bool false))⟩,
  ⟨some 6, none, false, .mv (.t 49)⟩] (some [6])
def ir7_4 : IC := .seq ir7_r5 .ret
def ir7_5 : IC := .cond (.t 40) ir7_4 .skip
def ir7_6 : IC := .seq ir7_r4 ir7_5
def ir7_r6 : IC := .reg [⟨some 10, none, false, .mv (.k (.int .i64 0))⟩,
  ⟨some 11, none, false, .mv (.k (.int .i64 (-1)))⟩] (some [1, 2, 3, 7, 8, 10, 11])
def ir7_r7 : IC := .reg [⟨some 12, none, false, .mv (.k (.int .i64 0))⟩] (some [1, 2, 3, 7, 8, 10, 11, 12])
def ir7_r8 : IC := .reg [⟨some 50, none, false, .mv (.t 12)⟩,
  ⟨some 51, none, false, .mv (.t 2)⟩,
  ⟨some 52, none, false, .len (.t 51)⟩,
  ⟨some 53, none, false, .cmp .lss (.t 50) (.t 52)⟩] (some [1, 2, 3, 7, 8, 10, 11, 12, 53])
def ir7_7 : IC := .cond (.t 53) .skip (.exit 0)
def ir7_8 : IC := .seq ir7_r8 ir7_7
def ir7_r10 : IC := .reg [⟨some 56, none, false, .mv (.t 2)⟩,
  ⟨some 57, none, false, .mv (.t 12)⟩,
  ⟨some 58, none, false, .iad 1 (.t 56) (.t 57)⟩,
  ⟨some 59, none, false, .ldc (.t 58)⟩,
  ⟨some 60, none, false, .cmp .lss (.t 59) (.k (.int .i64 0))⟩,
  ⟨some 61, none, false, .mv (.t 60)⟩,
  ⟨some 62, some (61, false), false, .mv (.t 2)⟩,
  ⟨some 63, some (61, false), false, .mv (.t 12)⟩,
  ⟨some 64, some (61, false), false, .iad 1 (.t 62) (.t 63)⟩,
  ⟨some 65, some (61, false), false, .ldc (.t 64)⟩,
  ⟨some 66, some (61, false), false, .mv (.t 1)⟩,
  ⟨some 67, some (61, false), false, .len (.t 66)⟩,
  ⟨some 68, some (61, false), false, .cmp .geq (.t 65) (.t 67)⟩,
  ⟨some 69, none, false, .pick (.t 61) (.k (.bool true)) (.t 68)⟩] (some [1, 2, 3, 7, 8, 10, 11, 12, 69])
def ir7_r11 : IC := .reg [⟨some 6, none, false, .mv (.k (.bool false))⟩] (some [6])
def ir7_9 : IC := .seq ir7_r11 .ret
def ir7_10 : IC := .cond (.t 69) ir7_9 .skip
def ir7_11 : IC := .seq ir7_r10 ir7_10
def ir7_r12 : IC := .reg [⟨some 70, none, false, .mv (.t 1)⟩,
  ⟨some 71, none, false, .mv (.t 2)⟩,
  ⟨some 72, none, false, .mv (.t 12)⟩,
  ⟨some 73, none, false, .iad 1 (.t 71) (.t 72)⟩,
  ⟨some 74, none, false, .ldc (.t 73)⟩,
  ⟨some 75, none, false, .iad 2 (.t 70) (.t 74)⟩,
  ⟨some 76, none, false, .lda 2 (.t 75)⟩,
  ⟨some 13, none, false, .alloc [(.int .i64 0), (.int .i64 0)]⟩,
  ⟨none, none, false, .st 2 (.t 13) (.t 76)⟩,
  ⟨some 14, none, false, .mv (.k (.int .i64 0))⟩] (some [1, 2, 3, 7, 8, 10, 11, 12, 13, 14])
def ir7_r13 : IC := .reg [⟨some 77, none, false, .fad 1 (.t 3)⟩,
  ⟨some 78, none, false, .ldc (.t 77)⟩,
  ⟨some 79, none, false, .len (.t 78)⟩,
  ⟨some 80, none, false, .cmp .gtr (.t 79) (.k (.int .i64 0))⟩] (some [1, 2, 3, 7, 8, 10, 11, 12, 13, 14, 80])
def ir7_r14 : IC := .draw [(⟨some 81, none, false, .fad 1 (.t 3)⟩, false, 0, 0),
  (⟨some 82, none, false, .ldc (.t 81)⟩, false, 1, 1),
  (⟨some 83, none, false, .mv (.t 12)⟩, false, 0, 0),
  (⟨some 84, none, false, .fad 1 (.t 3)⟩, false, 0, 0),
  (⟨some 85, none, false, .ldc (.t 84)⟩, false, 8, 2),
  (⟨some 86, none, false, .len (.t 85)⟩, false, 24, 2),
  (⟨some 87, none, false, .div .rem (.t 83) (.t 86)⟩, false, 60, 0),
  (⟨some 88, none, false, .iad 1 (.t 82) (.t 87)⟩, false, 127, 0),
  (⟨some 89, none, false, .ldc (.t 88)⟩, true, 255, 1),
  (⟨some 90, none, false, .conv .i64 (.t 89)⟩, false, 511, 0),
  (⟨some 14, none, false, .mv (.t 90)⟩, false, 1023, 0)] (some [1, 2, 3, 7, 8, 10, 11, 12, 13, 14])
def ir7_12 : IC := .cond (.t 80) ir7_r14 .skip
def ir7_13 : IC := .seq ir7_r13 ir7_12
def ir7_r15 : IC := .reg [⟨some 91, none, false, .fad 1 (.t 13)⟩,
  ⟨some 92, none, false, .ldc (.t 91)⟩,
  ⟨some 93, none, false, .fad 0 (.t 13)⟩,
  ⟨some 94, none, false, .ldc (.t 93)⟩,
  ⟨some 95, none, false, .cmp .gtr (.t 92) (.t 94)⟩] (some [1, 2, 3, 7, 8, 10, 11, 12, 13, 14, 95])
def ir7_r16 : IC := .reg [⟨some 96, none, false, .mv (.t 10)⟩,
  ⟨some 97, none, false, .mv (.t 14)⟩,
  ⟨some 98, none, false, .fad 1 (.t 13)⟩,
  ⟨some 99, none, false, .ldc (.t 98)⟩,
  ⟨some 100, none, false, .fad 0 (.t 13)⟩,
  ⟨some 101, none, false, .ldc (.t 100)⟩,
  ⟨some 102, none, false, .ar .sub (.t 99) (.t 101)⟩,
  ⟨some 103, none, false, .ar .add (.t 102) (.k (.int .i64 1))⟩,
  ⟨some 104, none, false, .div .rem (.t 97) (.t 103)⟩,
  ⟨some 105, none, false, .ar .add (.t 96) (.t 104)⟩,
  ⟨some 10, none, false, .mv (.t 105)⟩] (some [1, 2, 3, 7, 8, 10, 11, 12, 13])
def ir7_14 : IC := .cond (.t 95) ir7_r16 .skip
def ir7_15 : IC := .seq ir7_r15 ir7_14
def ir7_r17 : IC := .reg [⟨some 106, none, false, .mv (.t 10)⟩,
  ⟨some 107, none, false, .fad 0 (.t 13)⟩,
  ⟨some 108, none, false, .ldc (.t 107)⟩,
  ⟨some 109, none, false, .ar .add (.t 106) (.t 108)⟩,
  ⟨some 10, none, false, .mv (.t 109)⟩] (some [1, 2, 3, 7, 8, 10, 11, 12])
def ir7_r18 : IC := .reg [⟨some 110, none, false, .mv (.t 10)⟩,
  ⟨some 111, none, false, .fad 0 (.t 3)⟩,
  ⟨some 112, none, false, .ldc (.t 111)⟩,
  ⟨some 113, none, false, .cmp .gtr (.t 110) (.t 112)⟩,
  ⟨some 114, none, false, .mv (.t 113)⟩,
  ⟨some 115, some (114, true), false, .mv (.t 11)⟩,
  ⟨some 116, some (114, true), false, .cmp .lss (.t 115) (.k (.int .i64 0))⟩,
  ⟨some 117, none, false, .pick (.t 114) (.t 116) (.k (.bool false))⟩] (some [1, 2, 3, 7, 8, 10, 11, 12, 117])
def ir7_r19 : IC := .reg [⟨some 118, none, false, .mv (.t 12)⟩,
  ⟨some 11, none, false, .mv (.t 118)⟩] (some [1, 2, 3, 7, 8, 10, 11, 12])
def ir7_16 : IC := .cond (.t 117) ir7_r19 .skip
def ir7_17 : IC := .seq ir7_r18 ir7_16
def ir7_18 : IC := .seq ir7_r17 ir7_17
def ir7_19 : IC := .seq ir7_15 ir7_18
def ir7_20 : IC := .seq ir7_13 ir7_19
def ir7_21 : IC := .seq ir7_r12 ir7_20
def ir7_22 : IC := .seq ir7_11 ir7_21
def ir7_23 : IC := .block 1 ir7_22
def ir7_r9 : IC := .reg [⟨some 54, none, false, .mv (.t 12)⟩,
  ⟨some 55, none, false, .ar .add (.t 54) (.k (.int .i64 1))⟩,
  ⟨some 12, none, false, .mv (.t 55)⟩] (some [1, 2, 3, 7, 8, 10, 11, 12])
def ir7_24 : IC := .seq ir7_23 ir7_r9
def ir7_25 : IC := .seq ir7_8 ir7_24
def ir7_26 : IC := .loop ir7_25
def ir7_27 : IC := .block 0 ir7_26
def ir7_28 : IC := .seq ir7_r7 ir7_27
def ir7_r20 : IC := .reg [⟨some 119, none, false, .mv (.t 7)⟩,
  ⟨some 120, none, false, .mv (.t 11)⟩,
  ⟨some 121, none, false, .call (.f 23) [(.t 119), (.t 120)]⟩,
  ⟨some 122, none, false, .not (.t 121)⟩,
  ⟨some 123, none, false, .mv (.t 122)⟩,
  ⟨some 124, some (123, false), false, .mv (.t 11)⟩,
  ⟨some 125, some (123, false), false, .mv (.t 8)⟩,
  ⟨some 126, some (123, false), false, .call (.f 23) [(.t 124), (.t 125)]⟩,
  ⟨some 127, some (123, false), false, .not (.t 126)⟩,
  ⟨some 128, none, false, .pick (.t 123) (.k (.bool true)) (.t 127)⟩,
  ⟨some 129, none, false, .mv (.t 128)⟩,
  ⟨some 130, some (129, false), false, .mv (.t 7)⟩,
  ⟨some 131, some (129, false), false, .mv (.t 2)⟩,
  ⟨some 132, some (129, false), false, .len (.t 131)⟩,
  ⟨some 133, some (129, false), false, .cmp .geq (.t 130) (.t 132)⟩,
  ⟨some 134, none, false, .pick (.t 129) (.k (.bool true)) (.t 133)⟩,
  ⟨some 135, none, false, .mv (.t 134)⟩,
  ⟨some 136, some (135, false), false, .mv (.t 8)⟩,
  ⟨some 137, some (135, false), false, .mv (.t 2)⟩,
  ⟨some 138, some (135, false), false, .len (.t 137)⟩,
  ⟨some 139, some (135, false), false, .cmp .geq (.t 136) (.t 138)⟩,
  ⟨some 140, none, false, .pick (.t 135) (.k (.bool true)) (.t 139)⟩,
  ⟨some 141, none, false, .mv (.t 140)⟩,
  ⟨some 142, some (141, false), false, .mv (.t 7)⟩,
  ⟨some 143, some (141, false), false, .cmp .lss (.t 142) (.k (.int .i64 (-1)))⟩,
  ⟨some 144, none, false, .pick (.t 141) (.k (.bool true)) (.t 143)⟩,
  ⟨some 145, none, false, .mv (.t 144)⟩,
  ⟨some 146, some (145, false), false, .mv (.t 8)⟩,
  ⟨some 147, some (145, false), false, .cmp .lss (.t 146) (.k (.int .i64 (-1)))⟩,
  ⟨some 148, none, false, .pick (.t 145) (.k (.bool true)) (.t 147)⟩] (some [1, 2, 3, 7, 8, 148])
def ir7_r21 : IC := .reg [⟨some 6, none, false, .mv (.k (.bool false))⟩] (some [6])
def ir7_29 : IC := .seq ir7_r21 .ret
def ir7_30 : IC := .cond (.t 148) ir7_29 .skip
def ir7_31 : IC := .seq ir7_r20 ir7_30
def ir7_r22 : IC := .reg [⟨some 149, none, false, .fad 0 (.t 3)⟩,
  ⟨some 150, none, false, .ldc (.t 149)⟩,
  ⟨some 151, none, false, .cmp .geq (.t 150) (.k (.int .i64 1000000))⟩] (some [1, 2, 3, 7, 8, 151])
def ir7_r23 : IC := .reg [⟨some 152, none, false, .call (.f 12) []⟩,
  ⟨some 6, none, false, .mv (.t 152)⟩] (some [6])
def ir7_32 : IC := .seq ir7_r23 .ret
def ir7_33 : IC := .cond (.t 151) ir7_32 .skip
def ir7_34 : IC := .seq ir7_r22 ir7_33
def ir7_r24 : IC := .draw [(⟨some 154, none, false, .fad 0 (.t 3)⟩, false, 0, 0),
  (⟨some 155, none, false, .ldc (.t 154)⟩, false, 1, 1),
  (⟨some 156, none, false, .ar .add (.t 155) (.k (.int .i64 1))⟩, false, 3, 0),
  (⟨some 157, none, false, .bsl 2 0 [] []⟩, false, 0, 2),
  (⟨some 158, none, false, .mv (.t 1)⟩, false, 0, 0),
  (⟨some 159, none, false, .app 2 16 (.t 157) (.t 158)⟩, false, 24, 2),
  (⟨some 160, none, false, .bsl 1 0 [] []⟩, false, 0, 26),
  (⟨some 161, none, false, .mv (.t 2)⟩, false, 0, 0),
  (⟨some 162, none, false, .app 1 8 (.t 160) (.t 161)⟩, false, 248, 2),
  (⟨some 163, none, false, .call (.f 18) [(.t 156), (.t 159), (.t 162)]⟩, true, 511, 1),
  (⟨some 153, none, false, .mv (.t 163)⟩, false, 1023, 0),
  (⟨some 164, none, false, .ext (.t 153) 0⟩, false, 2047, 0),
  (⟨some 165, none, false, .ext (.t 153) 1⟩, false, 2047, 0),
  (⟨some 166, none, false, .ext (.t 153) 2⟩, false, 2047, 0),
  (⟨some 15, none, false, .mv (.t 164)⟩, false, 4095, 0),
  (⟨some 16, none, false, .mv (.t 165)⟩, false, 24575, 0),
  (⟨some 9, none, false, .mv (.t 166)⟩, false, 65535, 0)] (some [7, 8, 9, 15, 16])
def ir7_r25 : IC := .reg [⟨some 167, none, false, .mv (.t 9)⟩,
  ⟨some 168, none, false, .cmp .eql (.t 167) (.k (.int .i64 0))⟩,
  ⟨some 169, none, false, .mv (.t 168)⟩,
  ⟨some 170, some (169, true), false, .mv (.t 7)⟩,
  ⟨some 171, some (169, true), false, .mv (.t 15)⟩,
  ⟨some 172, some (169, true), false, .call (.f 23) [(.t 170), (.t 171)]⟩,
  ⟨some 173, none, false, .pick (.t 169) (.t 172) (.k (.bool false))⟩,
  ⟨some 174, none, false, .mv (.t 173)⟩,
  ⟨some 175, some (174, true), false, .mv (.t 8)⟩,
  ⟨some 176, some (174, true), false, .mv (.t 16)⟩,
  ⟨some 177, some (174, true), false, .call (.f 23) [(.t 175), (.t 176)]⟩,
  ⟨some 178, none, false, .pick (.t 174) (.t 177) (.k (.bool false))⟩,
  ⟨some 179, none, false, .mv (.t 178)⟩,
  ⟨some 180, some (179, true), false, .call (.f 12) []⟩,
  ⟨some 181, none, false, .pick (.t 179) (.t 180) (.k (.bool false))⟩,
  ⟨some 6, none, false, .mv (.t 181)⟩] (some [6])
def ir7_35 : IC := .seq ir7_r25 .ret
def ir7_36 : IC := .seq ir7_r24 ir7_35
def ir7_37 : IC := .seq ir7_34 ir7_36
def ir7_38 : IC := .seq ir7_31 ir7_37
def ir7_39 : IC := .seq ir7_28 ir7_38
def ir7_40 : IC := .seq ir7_r6 ir7_39
def ir7_41 : IC := .seq ir7_6 ir7_40
def ir7_42 : IC := .seq ir7_r3 ir7_41
def ir7_43 : IC := .seq ir7_3 ir7_42
def ir7_44 : IC := .seq ir7_r0 ir7_43
def ir7 : IC := ir7_44
theorem fn7 : FnIs Try.prog 7 ir7 182 [.tmp 6] := ⟨Try.f7, Try.f7.body.getD .skip, Try.func7, by kernel_rfl, by kernel_rfl, by kernel_rfl, by kernel_rfl⟩
/- boule/boulelaw11.sooner · slots 16 · names 0:a 1:b 2:a 3:b · results [4] -/
def ir23_r0 : IC := .reg [⟨some 4, none, false, .mv (.k (.bool false))⟩] (some [0, 1])
def ir23_r1 : IC := .reg [⟨some 5, none, false, .mv (.t 1)⟩,
  ⟨some 6, none, false, .cmp .lss (.t 5) (.k (.int .i64 0))⟩,
  ⟨some 7, none, false, .mv (.t 6)⟩,
  ⟨some 8, some (7, false), false, .mv (.t 0)⟩,
  ⟨some 9, some (7, false), false, .cmp .geq (.t 8) (.k (.int .i64 0))⟩,
  ⟨some 10, some (7, false), false, .mv (.t 9)⟩,
  ⟨some 11, some (10, true), false, .mv (.t 0)⟩,
  ⟨some 12, some (10, true), false, .mv (.t 1)⟩,
  ⟨some 13, some (10, true), false, .cmp .leq (.t 11) (.t 12)⟩,
  ⟨some 14, some (7, false), false, .pick (.t 10) (.t 13) (.k (.bool false))⟩,
  ⟨some 15, none, false, .pick (.t 7) (.k (.bool true)) (.t 14)⟩,
  ⟨some 4, none, false, .mv (.t 15)⟩] (some [4])
def ir23_1 : IC := .seq ir23_r1 .ret
def ir23_2 : IC := .seq ir23_r0 ir23_1
def ir23 : IC := ir23_2
theorem fn23 : FnIs Try.prog 23 ir23 16 [.tmp 4] := ⟨Try.f23, Try.f23.body.getD .skip, Try.func23, by kernel_rfl, by kernel_rfl, by kernel_rfl, by kernel_rfl⟩
theorem soon_f (a b : Int) (hq : b < 0 ∨ 0 ≤ a ∧ a ≤ b) {h : AH} (hs : h.sees 0 = true) : Fc Try.prog 23 [.int .i64 a, .int .i64 b] h (.bool true) h := by
  refine Fc.lift0 ?_ rfl rfl hs
  refine Fc.intro0 fn23 (by simp) rfl rfl ?_; simp only [argF]
  refine ITri.seq ?_
  refine ITri.reg pokT ?_; simp -implicitDefEqProofs (disch := first | decide | exact of_eq_true (eq_true rfl) | omega | assumption) only [ ↓vcD, vcE, evs, evP, evB, intsOf, fillC, Value.cells, pt, List.append_nil, List.nil_append, List.cons_append, List.length_cons, List.length_nil, List.filter_nil, List.map_nil, ↓List.getElem?_cons_zero, ↓List.getElem?_cons_succ, List.getElem?_cons_zero, List.getElem?_cons_succ, List.set_cons_zero, List.set_cons_succ, Option.join_some, Option.join_none, Option.map_some, List.all_cons, List.all_nil, Value.oneCell', reduceIte, reduceCtorEq, Nat.reduceEqDiff, Nat.reduceAdd, Nat.reduceMul, Nat.reduceLT, Nat.reduceBEq, Nat.reduceLeDiff, Nat.reduceSub, List.size_toArray]
  refine ITri.seq ?_
  by_cases g : b < 0
  · refine ITri.reg pokT ?_; simp -implicitDefEqProofs (disch := first | decide | exact of_eq_true (eq_true rfl) | omega | assumption) only [g, decide_true,  ↓vcD, vcE, evs, evP, evB, intsOf, fillC, Value.cells, pt, List.append_nil, List.nil_append, List.cons_append, List.length_cons, List.length_nil, List.filter_nil, List.map_nil, ↓List.getElem?_cons_zero, ↓List.getElem?_cons_succ, List.getElem?_cons_zero, List.getElem?_cons_succ, List.set_cons_zero, List.set_cons_succ, Option.join_some, Option.join_none, Option.map_some, List.all_cons, List.all_nil, Value.oneCell', reduceIte, reduceCtorEq, Nat.reduceEqDiff, Nat.reduceAdd, Nat.reduceMul, Nat.reduceLT, Nat.reduceBEq, Nat.reduceLeDiff, Nat.reduceSub, List.size_toArray]
    refine ITri.ret ?_; exact EndR.plain (by simp) (by rfl) (by rfl) (by rfl)
  · have g2 : 0 ≤ a := by omega
    have g3 : a ≤ b := by omega
    refine ITri.reg pokT ?_; simp -implicitDefEqProofs (disch := first | decide | exact of_eq_true (eq_true rfl) | omega | assumption) only [g, g2, g3, decide_true, decide_false,  ↓vcD, vcE, evs, evP, evB, intsOf, fillC, Value.cells, pt, List.append_nil, List.nil_append, List.cons_append, List.length_cons, List.length_nil, List.filter_nil, List.map_nil, ↓List.getElem?_cons_zero, ↓List.getElem?_cons_succ, List.getElem?_cons_zero, List.getElem?_cons_succ, List.set_cons_zero, List.set_cons_succ, Option.join_some, Option.join_none, Option.map_some, List.all_cons, List.all_nil, Value.oneCell', reduceIte, reduceCtorEq, Nat.reduceEqDiff, Nat.reduceAdd, Nat.reduceMul, Nat.reduceLT, Nat.reduceBEq, Nat.reduceLeDiff, Nat.reduceSub, List.size_toArray]
    refine ITri.ret ?_; exact EndR.plain (by simp) (by rfl) (by rfl) (by rfl)
abbrev mT (ts : List Int) (wear : List Rg) (runs : List Int) : List (Option AObj) := [none, some (.cells ⟨rows eU ts, 0, false⟩), some (.cells ⟨rows eR wear, 0, false⟩), some (.cells ⟨rows eN runs, 0, false⟩)]
abbrev mT5 (nt ct : Nat) (life : Int) (ts : List Int) (wear : List Rg) (runs : List Int) : List (Option AObj) := [none, some (.cells ⟨rows eU ts, 0, false⟩), some (.cells ⟨rows eR wear, 0, false⟩), some (.cells ⟨rows eN runs, 0, false⟩), some (.cells ⟨[.int .i64 life, .slice (some ⟨1, 0, none⟩) nt ct], 1, false⟩)]
set_option maxHeartbeats 1000000 in
theorem agesTrue_c (nt ct nw cw nr cr : Nat) (life : Int) (ts : List Int) (wear : List Rg) (runs : List Int) (ht : ts.length = nt) (hw : wear.length = nw) (hr : runs.length = nr) (hu : ∀ x ∈ ts, 0 ≤ x ∧ x ≤ 65535) :
    Fc Try.prog 7 [.agg #[.int .i64 life, .slice (some ⟨1, 0, none⟩) nt ct], .slice (some ⟨2, 0, none⟩) nw cw, .slice (some ⟨3, 0, none⟩) nr cr] (Hp 4 (mT ts wear runs)) (.bool true) (Hp 4 (mT ts wear runs)) := by
  refine Fc.intro0 fn7 (by simp) rfl rfl ?_; simp only [argF]
  have hl1 : (rows eR wear).length = nw * 2 := by rw [rows_len, hw]
  have hl2 : (rows eN runs).length = nr := by rw [rows_len, hr, Nat.mul_one]
  have ht1 : takeC (rows eR wear) 0 (nw * 2) = some (rows eR wear) := takeC_0 _ _ hl1
  have ht2 : takeC (rows eN runs) 0 nr = some (rows eN runs) := takeC_0 _ _ hl2
  refine ITri.seq ?_
  refine ITri.reg pokT ?_; simp -implicitDefEqProofs (disch := first | decide | exact of_eq_true (eq_true rfl) | omega | assumption) only [ ↓vcD, vcE, evs, evP, evB, intsOf, fillC, Value.cells, pt, List.append_nil, List.nil_append, List.cons_append, List.length_cons, List.length_nil, List.filter_nil, List.map_nil, ↓List.getElem?_cons_zero, ↓List.getElem?_cons_succ, List.getElem?_cons_zero, List.getElem?_cons_succ, List.set_cons_zero, List.set_cons_succ, Option.join_some, Option.join_none, Option.map_some, List.all_cons, List.all_nil, Value.oneCell', reduceIte, reduceCtorEq, Nat.reduceEqDiff, Nat.reduceAdd, Nat.reduceMul, Nat.reduceLT, Nat.reduceBEq, Nat.reduceLeDiff, Nat.reduceSub, List.size_toArray] -- r0
  refine ITri.seq ?_
  refine ITri.seq ?_
  refine ITri.one (P := Try.prog) [(1, .slice (some ⟨2, 0, none⟩) nw cw), (2, .slice (some ⟨3, 0, none⟩) nr cr), (3, pt 4), (24, .bool (decide ((8 : Int) < nw) || decide ((500 : Int) < nr)))] ?_ ?_
  · by_cases g1 : (8 : Int) < nw
    · refine ITri.reg pokT ?_; simp -implicitDefEqProofs (disch := first | decide | exact of_eq_true (eq_true rfl) | omega | assumption) only [g1, decide_true, Bool.true_or,  ↓vcD, vcE, evs, evP, evB, intsOf, fillC, Value.cells, pt, List.append_nil, List.nil_append, List.cons_append, List.length_cons, List.length_nil, List.filter_nil, List.map_nil, ↓List.getElem?_cons_zero, ↓List.getElem?_cons_succ, List.getElem?_cons_zero, List.getElem?_cons_succ, List.set_cons_zero, List.set_cons_succ, Option.join_some, Option.join_none, Option.map_some, List.all_cons, List.all_nil, Value.oneCell', reduceIte, reduceCtorEq, Nat.reduceEqDiff, Nat.reduceAdd, Nat.reduceMul, Nat.reduceLT, Nat.reduceBEq, Nat.reduceLeDiff, Nat.reduceSub, List.size_toArray]
    · refine ITri.reg pokT ?_; simp -implicitDefEqProofs (disch := first | decide | exact of_eq_true (eq_true rfl) | omega | assumption) only [g1, decide_true, decide_false, Bool.false_or,  ↓vcD, vcE, evs, evP, evB, intsOf, fillC, Value.cells, pt, List.append_nil, List.nil_append, List.cons_append, List.length_cons, List.length_nil, List.filter_nil, List.map_nil, ↓List.getElem?_cons_zero, ↓List.getElem?_cons_succ, List.getElem?_cons_zero, List.getElem?_cons_succ, List.set_cons_zero, List.set_cons_succ, Option.join_some, Option.join_none, Option.map_some, List.all_cons, List.all_nil, Value.oneCell', reduceIte, reduceCtorEq, Nat.reduceEqDiff, Nat.reduceAdd, Nat.reduceMul, Nat.reduceLT, Nat.reduceBEq, Nat.reduceLeDiff, Nat.reduceSub, List.size_toArray]
  cases g0 : (decide ((8 : Int) < nw) || decide ((500 : Int) < nr)) with
  | true =>
    refine ITri.cond (v := true) rfl (fun _ => ?_) (fun h => by cases h)
    refine ITri.seq ?_
    refine ITri.reg pokT ?_; simp -implicitDefEqProofs (disch := first | decide | exact of_eq_true (eq_true rfl) | omega | assumption) only [ ↓vcD, vcE, evs, evP, evB, intsOf, fillC, Value.cells, pt, List.append_nil, List.nil_append, List.cons_append, List.length_cons, List.length_nil, List.filter_nil, List.map_nil, ↓List.getElem?_cons_zero, ↓List.getElem?_cons_succ, List.getElem?_cons_zero, List.getElem?_cons_succ, List.set_cons_zero, List.set_cons_succ, Option.join_some, Option.join_none, Option.map_some, List.all_cons, List.all_nil, Value.oneCell', reduceIte, reduceCtorEq, Nat.reduceEqDiff, Nat.reduceAdd, Nat.reduceMul, Nat.reduceLT, Nat.reduceBEq, Nat.reduceLeDiff, Nat.reduceSub, List.size_toArray]
    refine ⟨_, _, knownT, ?_⟩
    try simp -implicitDefEqProofs (disch := first | decide | exact of_eq_true (eq_true rfl) | omega | assumption) only [ ↓vcD, vcE, evs, evP, evB, intsOf, fillC, Value.cells, pt, List.append_nil, List.nil_append, List.cons_append, List.length_cons, List.length_nil, List.filter_nil, List.map_nil, ↓List.getElem?_cons_zero, ↓List.getElem?_cons_succ, List.getElem?_cons_zero, List.getElem?_cons_succ, List.set_cons_zero, List.set_cons_succ, Option.join_some, Option.join_none, Option.map_some, List.all_cons, List.all_nil, Value.oneCell', reduceIte, reduceCtorEq, Nat.reduceEqDiff, Nat.reduceAdd, Nat.reduceMul, Nat.reduceLT, Nat.reduceBEq, Nat.reduceLeDiff, Nat.reduceSub, List.size_toArray]
    refine ITri.ret ?_; exact EndR.plain (by simp) (by rfl) (by rfl) (by rfl)
  | false =>
  rw [Bool.or_eq_false_iff, decide_eq_false_iff_not, decide_eq_false_iff_not] at g0
  refine ITri.cond (v := false) rfl (fun h => by cases h) (fun _ => ?_); refine ITri.skip ?_; simp only [SeqQ_normal, BlkQ_normal]
  have hb : nw ≤ 1000000 := by omega
  have hb2 : nr ≤ 1000000 := by omega
  refine ITri.seq ?_
  refine ITri.cut (fun _ : Unit => [(1, .slice (some ⟨2, 0, none⟩) nw cw), (2, .slice (some ⟨3, 0, none⟩) nr cr), (3, pt 4), (7, .int .i64 (agF life wear runs).1), (8, .int .i64 (agF life wear runs).2.1), (9, .int .i64 (agF life wear runs).2.2)]) (fun _ => []) (fun _ => Hp 4 (mT5 nt ct life ts wear runs)) (fun _ => True) ?_ (fun _ _ => ?_)
  · by_cases h1 : nw = 0
    · have e1 : wear = [] := List.eq_nil_of_length_eq_zero (by omega)
      subst h1
      subst e1
      by_cases h2 : nr = 0
      · have e2 : runs = [] := List.eq_nil_of_length_eq_zero (by omega)
        subst h2
        subst e2
        refine ITri.draw pokT ?_; simp -implicitDefEqProofs (disch := first | decide | exact of_eq_true (eq_true rfl) | omega | assumption) only [appK_0, rows_nil,  ↓vcD, vcE, evs, evP, evB, intsOf, fillC, Value.cells, pt, List.append_nil, List.nil_append, List.cons_append, List.length_cons, List.length_nil, List.filter_nil, List.map_nil, ↓List.getElem?_cons_zero, ↓List.getElem?_cons_succ, List.getElem?_cons_zero, List.getElem?_cons_succ, List.set_cons_zero, List.set_cons_succ, Option.join_some, Option.join_none, Option.map_some, List.all_cons, List.all_nil, Value.oneCell', reduceIte, reduceCtorEq, Nat.reduceEqDiff, Nat.reduceAdd, Nat.reduceMul, Nat.reduceLT, Nat.reduceBEq, Nat.reduceLeDiff, Nat.reduceSub, List.size_toArray]
        refine ⟨_, _, aged_f 0 0 life [] [] rfl rfl (by omega) (by omega) (sees0 rfl (of_decide_eq_true rfl)) (Rd.hq rfl rfl) (Rd.hq rfl rfl), ?_⟩
        try simp -implicitDefEqProofs (disch := first | decide | exact of_eq_true (eq_true rfl) | omega | assumption) only [ ↓vcD, vcE, evs, evP, evB, intsOf, fillC, Value.cells, pt, List.append_nil, List.nil_append, List.cons_append, List.length_cons, List.length_nil, List.filter_nil, List.map_nil, ↓List.getElem?_cons_zero, ↓List.getElem?_cons_succ, List.getElem?_cons_zero, List.getElem?_cons_succ, List.set_cons_zero, List.set_cons_succ, Option.join_some, Option.join_none, Option.map_some, List.all_cons, List.all_nil, Value.oneCell', reduceIte, reduceCtorEq, Nat.reduceEqDiff, Nat.reduceAdd, Nat.reduceMul, Nat.reduceLT, Nat.reduceBEq, Nat.reduceLeDiff, Nat.reduceSub, List.size_toArray]
        exact CutQ.mk () trivial (Wk.gc [0, 1, 2, 3, 4] [] (of_decide_eq_true rfl) (of_decide_eq_true rfl) rfl rfl (of_decide_eq_true rfl) rfl rfl (by repeat (first | exact xiOK_nil | refine xiOK_cons (by first | trivial | exact roomOK _ (by decide)) ?_)) rfl (by simp -implicitDefEqProofs (disch := first | decide | exact of_eq_true (eq_true rfl) | omega | assumption) only [rows_nil, objOK, sgL, xiL, objAt, nilO, OM, mvL, mv, mvS, okS, okP, mvL_rows, okML, okM, okML_rows, List.getElem?_cons_zero, Option.getD_some, implies_true, imp_self, ne_eq, and_self, true_or, or_true, Nat.zero_mul, Nat.sub_self, openB_self, ↓vcD, vcE, evs, evP, evB, intsOf, fillC, Value.cells, pt, List.append_nil, List.nil_append, List.cons_append, List.length_cons, List.length_nil, List.filter_nil, List.map_nil, ↓List.getElem?_cons_zero, ↓List.getElem?_cons_succ, List.getElem?_cons_zero, List.getElem?_cons_succ, List.set_cons_zero, List.set_cons_succ, Option.join_some, Option.join_none, Option.map_some, List.all_cons, List.all_nil, Value.oneCell', reduceIte, reduceCtorEq, Nat.reduceEqDiff, Nat.reduceAdd, Nat.reduceMul, Nat.reduceLT, Nat.reduceBEq, Nat.reduceLeDiff, Nat.reduceSub, List.size_toArray]) (by simp -implicitDefEqProofs (disch := first | decide | exact of_eq_true (eq_true rfl) | omega | assumption) only [rows_nil, valOK, sgL, xiL, mv, mvA, mvL, mvS, okS, okP, okM, okMA, okML, Option.getD_some, implies_true, and_self, true_or, or_true, Int.natCast_add, Int.cast_ofNat_Int, Nat.zero_mul, Nat.sub_self, openB_self, ↓vcD, vcE, evs, evP, evB, intsOf, fillC, Value.cells, pt, List.append_nil, List.nil_append, List.cons_append, List.length_cons, List.length_nil, List.filter_nil, List.map_nil, ↓List.getElem?_cons_zero, ↓List.getElem?_cons_succ, List.getElem?_cons_zero, List.getElem?_cons_succ, List.set_cons_zero, List.set_cons_succ, Option.join_some, Option.join_none, Option.map_some, List.all_cons, List.all_nil, Value.oneCell', reduceIte, reduceCtorEq, Nat.reduceEqDiff, Nat.reduceAdd, Nat.reduceMul, Nat.reduceLT, Nat.reduceBEq, Nat.reduceLeDiff, Nat.reduceSub, List.size_toArray]) (fun _ h => by cases h) ⟨rfl, fun _ h => by cases h⟩)
      · refine ITri.draw pokT ?_; simp -implicitDefEqProofs (disch := first | decide | exact of_eq_true (eq_true rfl) | omega | assumption) only [appK_0, rows_nil, ht2, hl2, rows_allT,  ↓vcD, vcE, evs, evP, evB, intsOf, fillC, Value.cells, pt, List.append_nil, List.nil_append, List.cons_append, List.length_cons, List.length_nil, List.filter_nil, List.map_nil, ↓List.getElem?_cons_zero, ↓List.getElem?_cons_succ, List.getElem?_cons_zero, List.getElem?_cons_succ, List.set_cons_zero, List.set_cons_succ, Option.join_some, Option.join_none, Option.map_some, List.all_cons, List.all_nil, Value.oneCell', reduceIte, reduceCtorEq, Nat.reduceEqDiff, Nat.reduceAdd, Nat.reduceMul, Nat.reduceLT, Nat.reduceBEq, Nat.reduceLeDiff, Nat.reduceSub, List.size_toArray]
        refine ⟨_, _, aged_f 0 nr life [] runs rfl hr (by omega) hb2 (sees0 rfl (of_decide_eq_true rfl)) (Rd.hq rfl rfl) (Rd.hq rfl rfl), ?_⟩
        try simp -implicitDefEqProofs (disch := first | decide | exact of_eq_true (eq_true rfl) | omega | assumption) only [ ↓vcD, vcE, evs, evP, evB, intsOf, fillC, Value.cells, pt, List.append_nil, List.nil_append, List.cons_append, List.length_cons, List.length_nil, List.filter_nil, List.map_nil, ↓List.getElem?_cons_zero, ↓List.getElem?_cons_succ, List.getElem?_cons_zero, List.getElem?_cons_succ, List.set_cons_zero, List.set_cons_succ, Option.join_some, Option.join_none, Option.map_some, List.all_cons, List.all_nil, Value.oneCell', reduceIte, reduceCtorEq, Nat.reduceEqDiff, Nat.reduceAdd, Nat.reduceMul, Nat.reduceLT, Nat.reduceBEq, Nat.reduceLeDiff, Nat.reduceSub, List.size_toArray]
        exact CutQ.mk () trivial (Wk.gc [0, 1, 2, 3, 4] [] (of_decide_eq_true rfl) (of_decide_eq_true rfl) rfl rfl (of_decide_eq_true rfl) rfl rfl (by repeat (first | exact xiOK_nil | refine xiOK_cons (by first | trivial | exact roomOK _ (by decide)) ?_)) rfl (by simp -implicitDefEqProofs (disch := first | decide | exact of_eq_true (eq_true rfl) | omega | assumption) only [rows_nil, objOK, sgL, xiL, objAt, nilO, OM, mvL, mv, mvS, okS, okP, mvL_rows, okML, okM, okML_rows, List.getElem?_cons_zero, Option.getD_some, implies_true, imp_self, ne_eq, and_self, true_or, or_true, Nat.zero_mul, Nat.sub_self, openB_self, ↓vcD, vcE, evs, evP, evB, intsOf, fillC, Value.cells, pt, List.append_nil, List.nil_append, List.cons_append, List.length_cons, List.length_nil, List.filter_nil, List.map_nil, ↓List.getElem?_cons_zero, ↓List.getElem?_cons_succ, List.getElem?_cons_zero, List.getElem?_cons_succ, List.set_cons_zero, List.set_cons_succ, Option.join_some, Option.join_none, Option.map_some, List.all_cons, List.all_nil, Value.oneCell', reduceIte, reduceCtorEq, Nat.reduceEqDiff, Nat.reduceAdd, Nat.reduceMul, Nat.reduceLT, Nat.reduceBEq, Nat.reduceLeDiff, Nat.reduceSub, List.size_toArray]) (by simp -implicitDefEqProofs (disch := first | decide | exact of_eq_true (eq_true rfl) | omega | assumption) only [rows_nil, valOK, sgL, xiL, mv, mvA, mvL, mvS, okS, okP, okM, okMA, okML, Option.getD_some, implies_true, and_self, true_or, or_true, Int.natCast_add, Int.cast_ofNat_Int, Nat.zero_mul, Nat.sub_self, openB_self, ↓vcD, vcE, evs, evP, evB, intsOf, fillC, Value.cells, pt, List.append_nil, List.nil_append, List.cons_append, List.length_cons, List.length_nil, List.filter_nil, List.map_nil, ↓List.getElem?_cons_zero, ↓List.getElem?_cons_succ, List.getElem?_cons_zero, List.getElem?_cons_succ, List.set_cons_zero, List.set_cons_succ, Option.join_some, Option.join_none, Option.map_some, List.all_cons, List.all_nil, Value.oneCell', reduceIte, reduceCtorEq, Nat.reduceEqDiff, Nat.reduceAdd, Nat.reduceMul, Nat.reduceLT, Nat.reduceBEq, Nat.reduceLeDiff, Nat.reduceSub, List.size_toArray]) (fun _ h => by cases h) ⟨rfl, fun _ h => by cases h⟩)
    · by_cases h2 : nr = 0
      · have e2 : runs = [] := List.eq_nil_of_length_eq_zero (by omega)
        subst h2
        subst e2
        refine ITri.draw pokT ?_; simp -implicitDefEqProofs (disch := first | decide | exact of_eq_true (eq_true rfl) | omega | assumption) only [appK_0, rows_nil, ht1, hl1, rows_allT,  ↓vcD, vcE, evs, evP, evB, intsOf, fillC, Value.cells, pt, List.append_nil, List.nil_append, List.cons_append, List.length_cons, List.length_nil, List.filter_nil, List.map_nil, ↓List.getElem?_cons_zero, ↓List.getElem?_cons_succ, List.getElem?_cons_zero, List.getElem?_cons_succ, List.set_cons_zero, List.set_cons_succ, Option.join_some, Option.join_none, Option.map_some, List.all_cons, List.all_nil, Value.oneCell', reduceIte, reduceCtorEq, Nat.reduceEqDiff, Nat.reduceAdd, Nat.reduceMul, Nat.reduceLT, Nat.reduceBEq, Nat.reduceLeDiff, Nat.reduceSub, List.size_toArray]
        refine ⟨_, _, aged_f nw 0 life wear [] hw rfl hb (by omega) (sees0 rfl (of_decide_eq_true rfl)) (Rd.hq rfl rfl) (Rd.hq rfl rfl), ?_⟩
        try simp -implicitDefEqProofs (disch := first | decide | exact of_eq_true (eq_true rfl) | omega | assumption) only [ ↓vcD, vcE, evs, evP, evB, intsOf, fillC, Value.cells, pt, List.append_nil, List.nil_append, List.cons_append, List.length_cons, List.length_nil, List.filter_nil, List.map_nil, ↓List.getElem?_cons_zero, ↓List.getElem?_cons_succ, List.getElem?_cons_zero, List.getElem?_cons_succ, List.set_cons_zero, List.set_cons_succ, Option.join_some, Option.join_none, Option.map_some, List.all_cons, List.all_nil, Value.oneCell', reduceIte, reduceCtorEq, Nat.reduceEqDiff, Nat.reduceAdd, Nat.reduceMul, Nat.reduceLT, Nat.reduceBEq, Nat.reduceLeDiff, Nat.reduceSub, List.size_toArray]
        exact CutQ.mk () trivial (Wk.gc [0, 1, 2, 3, 4] [] (of_decide_eq_true rfl) (of_decide_eq_true rfl) rfl rfl (of_decide_eq_true rfl) rfl rfl (by repeat (first | exact xiOK_nil | refine xiOK_cons (by first | trivial | exact roomOK _ (by decide)) ?_)) rfl (by simp -implicitDefEqProofs (disch := first | decide | exact of_eq_true (eq_true rfl) | omega | assumption) only [rows_nil, objOK, sgL, xiL, objAt, nilO, OM, mvL, mv, mvS, okS, okP, mvL_rows, okML, okM, okML_rows, List.getElem?_cons_zero, Option.getD_some, implies_true, imp_self, ne_eq, and_self, true_or, or_true, Nat.zero_mul, Nat.sub_self, openB_self, ↓vcD, vcE, evs, evP, evB, intsOf, fillC, Value.cells, pt, List.append_nil, List.nil_append, List.cons_append, List.length_cons, List.length_nil, List.filter_nil, List.map_nil, ↓List.getElem?_cons_zero, ↓List.getElem?_cons_succ, List.getElem?_cons_zero, List.getElem?_cons_succ, List.set_cons_zero, List.set_cons_succ, Option.join_some, Option.join_none, Option.map_some, List.all_cons, List.all_nil, Value.oneCell', reduceIte, reduceCtorEq, Nat.reduceEqDiff, Nat.reduceAdd, Nat.reduceMul, Nat.reduceLT, Nat.reduceBEq, Nat.reduceLeDiff, Nat.reduceSub, List.size_toArray]) (by simp -implicitDefEqProofs (disch := first | decide | exact of_eq_true (eq_true rfl) | omega | assumption) only [rows_nil, valOK, sgL, xiL, mv, mvA, mvL, mvS, okS, okP, okM, okMA, okML, Option.getD_some, implies_true, and_self, true_or, or_true, Int.natCast_add, Int.cast_ofNat_Int, Nat.zero_mul, Nat.sub_self, openB_self, ↓vcD, vcE, evs, evP, evB, intsOf, fillC, Value.cells, pt, List.append_nil, List.nil_append, List.cons_append, List.length_cons, List.length_nil, List.filter_nil, List.map_nil, ↓List.getElem?_cons_zero, ↓List.getElem?_cons_succ, List.getElem?_cons_zero, List.getElem?_cons_succ, List.set_cons_zero, List.set_cons_succ, Option.join_some, Option.join_none, Option.map_some, List.all_cons, List.all_nil, Value.oneCell', reduceIte, reduceCtorEq, Nat.reduceEqDiff, Nat.reduceAdd, Nat.reduceMul, Nat.reduceLT, Nat.reduceBEq, Nat.reduceLeDiff, Nat.reduceSub, List.size_toArray]) (fun _ h => by cases h) ⟨rfl, fun _ h => by cases h⟩)
      · refine ITri.draw pokT ?_; simp -implicitDefEqProofs (disch := first | decide | exact of_eq_true (eq_true rfl) | omega | assumption) only [ht1, hl1, ht2, hl2, rows_allT,  ↓vcD, vcE, evs, evP, evB, intsOf, fillC, Value.cells, pt, List.append_nil, List.nil_append, List.cons_append, List.length_cons, List.length_nil, List.filter_nil, List.map_nil, ↓List.getElem?_cons_zero, ↓List.getElem?_cons_succ, List.getElem?_cons_zero, List.getElem?_cons_succ, List.set_cons_zero, List.set_cons_succ, Option.join_some, Option.join_none, Option.map_some, List.all_cons, List.all_nil, Value.oneCell', reduceIte, reduceCtorEq, Nat.reduceEqDiff, Nat.reduceAdd, Nat.reduceMul, Nat.reduceLT, Nat.reduceBEq, Nat.reduceLeDiff, Nat.reduceSub, List.size_toArray]
        refine ⟨_, _, aged_f nw nr life wear runs hw hr hb hb2 (sees0 rfl (of_decide_eq_true rfl)) (Rd.hq rfl rfl) (Rd.hq rfl rfl), ?_⟩
        try simp -implicitDefEqProofs (disch := first | decide | exact of_eq_true (eq_true rfl) | omega | assumption) only [ ↓vcD, vcE, evs, evP, evB, intsOf, fillC, Value.cells, pt, List.append_nil, List.nil_append, List.cons_append, List.length_cons, List.length_nil, List.filter_nil, List.map_nil, ↓List.getElem?_cons_zero, ↓List.getElem?_cons_succ, List.getElem?_cons_zero, List.getElem?_cons_succ, List.set_cons_zero, List.set_cons_succ, Option.join_some, Option.join_none, Option.map_some, List.all_cons, List.all_nil, Value.oneCell', reduceIte, reduceCtorEq, Nat.reduceEqDiff, Nat.reduceAdd, Nat.reduceMul, Nat.reduceLT, Nat.reduceBEq, Nat.reduceLeDiff, Nat.reduceSub, List.size_toArray]
        exact CutQ.mk () trivial (Wk.gc [0, 1, 2, 3, 4] [] (of_decide_eq_true rfl) (of_decide_eq_true rfl) rfl rfl (of_decide_eq_true rfl) rfl rfl (fun _ h => by cases h) rfl (by simp -implicitDefEqProofs (disch := first | decide | exact of_eq_true (eq_true rfl) | omega | assumption) only [objOK, sgL, xiL, objAt, nilO, OM, mvL, mv, mvS, okS, okP, mvL_rows, okML, okM, okML_rows, List.getElem?_cons_zero, Option.getD_some, implies_true, imp_self, ne_eq, and_self, ↓vcD, vcE, evs, evP, evB, intsOf, fillC, Value.cells, pt, List.append_nil, List.nil_append, List.cons_append, List.length_cons, List.length_nil, List.filter_nil, List.map_nil, ↓List.getElem?_cons_zero, ↓List.getElem?_cons_succ, List.getElem?_cons_zero, List.getElem?_cons_succ, List.set_cons_zero, List.set_cons_succ, Option.join_some, Option.join_none, Option.map_some, List.all_cons, List.all_nil, Value.oneCell', reduceIte, reduceCtorEq, Nat.reduceEqDiff, Nat.reduceAdd, Nat.reduceMul, Nat.reduceLT, Nat.reduceBEq, Nat.reduceLeDiff, Nat.reduceSub, List.size_toArray]) (by simp -implicitDefEqProofs (disch := first | decide | exact of_eq_true (eq_true rfl) | omega | assumption) only [ valOK, sgL, xiL, mv, mvA, mvL, mvS, okS, okP, okM, okMA, okML, Option.getD_some, implies_true, and_self, Int.natCast_add, Int.cast_ofNat_Int, ↓vcD, vcE, evs, evP, evB, intsOf, fillC, Value.cells, pt, List.append_nil, List.nil_append, List.cons_append, List.length_cons, List.length_nil, List.filter_nil, List.map_nil, ↓List.getElem?_cons_zero, ↓List.getElem?_cons_succ, List.getElem?_cons_zero, List.getElem?_cons_succ, List.set_cons_zero, List.set_cons_succ, Option.join_some, Option.join_none, Option.map_some, List.all_cons, List.all_nil, Value.oneCell', reduceIte, reduceCtorEq, Nat.reduceEqDiff, Nat.reduceAdd, Nat.reduceMul, Nat.reduceLT, Nat.reduceBEq, Nat.reduceLeDiff, Nat.reduceSub, List.size_toArray]) (fun _ h => by cases h) ⟨rfl, fun _ h => by cases h⟩)
  refine ITri.seq ?_
  refine ITri.seq ?_
  by_cases he : agE life wear runs = 0
  case neg =>
    have e0 : agF life wear runs = (0, 0, agE life wear runs) := by
      unfold agF
      rw [if_neg he]
    rw [e0]
    refine ITri.reg pokT ?_; simp -implicitDefEqProofs (disch := first | decide | exact of_eq_true (eq_true rfl) | omega | assumption) only [he, not_false_eq_true, decide_true, decide_false, Bool.not_false, eq_self,  ↓vcD, vcE, evs, evP, evB, intsOf, fillC, Value.cells, pt, List.append_nil, List.nil_append, List.cons_append, List.length_cons, List.length_nil, List.filter_nil, List.map_nil, ↓List.getElem?_cons_zero, ↓List.getElem?_cons_succ, List.getElem?_cons_zero, List.getElem?_cons_succ, List.set_cons_zero, List.set_cons_succ, Option.join_some, Option.join_none, Option.map_some, List.all_cons, List.all_nil, Value.oneCell', reduceIte, reduceCtorEq, Nat.reduceEqDiff, Nat.reduceAdd, Nat.reduceMul, Nat.reduceLT, Nat.reduceBEq, Nat.reduceLeDiff, Nat.reduceSub, List.size_toArray]
    refine ITri.cond (v := true) rfl (fun _ => ?_) (fun h => by cases h)
    refine ITri.seq ?_
    refine ITri.reg pokT ?_; simp -implicitDefEqProofs (disch := first | decide | exact of_eq_true (eq_true rfl) | omega | assumption) only [decide_true, eq_self,  ↓vcD, vcE, evs, evP, evB, intsOf, fillC, Value.cells, pt, List.append_nil, List.nil_append, List.cons_append, List.length_cons, List.length_nil, List.filter_nil, List.map_nil, ↓List.getElem?_cons_zero, ↓List.getElem?_cons_succ, List.getElem?_cons_zero, List.getElem?_cons_succ, List.set_cons_zero, List.set_cons_succ, Option.join_some, Option.join_none, Option.map_some, List.all_cons, List.all_nil, Value.oneCell', reduceIte, reduceCtorEq, Nat.reduceEqDiff, Nat.reduceAdd, Nat.reduceMul, Nat.reduceLT, Nat.reduceBEq, Nat.reduceLeDiff, Nat.reduceSub, List.size_toArray]
    refine ⟨_, _, knownT, ?_⟩
    try simp -implicitDefEqProofs (disch := first | decide | exact of_eq_true (eq_true rfl) | omega | assumption) only [ ↓vcD, vcE, evs, evP, evB, intsOf, fillC, Value.cells, pt, List.append_nil, List.nil_append, List.cons_append, List.length_cons, List.length_nil, List.filter_nil, List.map_nil, ↓List.getElem?_cons_zero, ↓List.getElem?_cons_succ, List.getElem?_cons_zero, List.getElem?_cons_succ, List.set_cons_zero, List.set_cons_succ, Option.join_some, Option.join_none, Option.map_some, List.all_cons, List.all_nil, Value.oneCell', reduceIte, reduceCtorEq, Nat.reduceEqDiff, Nat.reduceAdd, Nat.reduceMul, Nat.reduceLT, Nat.reduceBEq, Nat.reduceLeDiff, Nat.reduceSub, List.size_toArray]
    refine ITri.ret ?_; exact EndR.plain (by simp) (by rfl) (by rfl) (by rfl)
  have e0 : agF life wear runs = (agP (·.2) life wear runs, agP (·.1) life wear runs, 0) := if_pos he
  rw [e0]
  refine ITri.reg pokT ?_; simp -implicitDefEqProofs (disch := first | decide | exact of_eq_true (eq_true rfl) | omega | assumption) only [decide_true, decide_false, not_true_eq_false, Bool.not_true, eq_self,  ↓vcD, vcE, evs, evP, evB, intsOf, fillC, Value.cells, pt, List.append_nil, List.nil_append, List.cons_append, List.length_cons, List.length_nil, List.filter_nil, List.map_nil, ↓List.getElem?_cons_zero, ↓List.getElem?_cons_succ, List.getElem?_cons_zero, List.getElem?_cons_succ, List.set_cons_zero, List.set_cons_succ, Option.join_some, Option.join_none, Option.map_some, List.all_cons, List.all_nil, Value.oneCell', reduceIte, reduceCtorEq, Nat.reduceEqDiff, Nat.reduceAdd, Nat.reduceMul, Nat.reduceLT, Nat.reduceBEq, Nat.reduceLeDiff, Nat.reduceSub, List.size_toArray]
  refine ITri.cond (v := false) rfl (fun h => by cases h) (fun _ => ?_); refine ITri.skip ?_; simp only [SeqQ_normal, BlkQ_normal]
  obtain ⟨a1, a2, a3, a4, a5⟩ := ag_ok he
  have bH := sW_bd (g := (·.2)) (wear := wear) (runs := runs) (fun r hr => by have := a4 r hr; omega) a5
  have bL := sW_bd (g := (·.1)) (wear := wear) (runs := runs) (fun r hr => by have := a4 r hr; omega) a5
  have bT := sT_bd (ts := ts) a4 a5
  obtain ⟨pT, hpT⟩ : ∃ p : Nat → Bool, (fun k => decide (life < sT ts wear runs (k + 1))) = p := ⟨_, rfl⟩
  have pTk : ∀ k, pT k = decide (life < sT ts wear runs (k + 1)) := fun k => by rw [← hpT]
  refine ITri.seq ?_
  refine ITri.reg pokT ?_; simp -implicitDefEqProofs (disch := first | decide | exact of_eq_true (eq_true rfl) | omega | assumption) only [ ↓vcD, vcE, evs, evP, evB, intsOf, fillC, Value.cells, pt, List.append_nil, List.nil_append, List.cons_append, List.length_cons, List.length_nil, List.filter_nil, List.map_nil, ↓List.getElem?_cons_zero, ↓List.getElem?_cons_succ, List.getElem?_cons_zero, List.getElem?_cons_succ, List.set_cons_zero, List.set_cons_succ, Option.join_some, Option.join_none, Option.map_some, List.all_cons, List.all_nil, Value.oneCell', reduceIte, reduceCtorEq, Nat.reduceEqDiff, Nat.reduceAdd, Nat.reduceMul, Nat.reduceLT, Nat.reduceBEq, Nat.reduceLeDiff, Nat.reduceSub, List.size_toArray] -- r6
  refine ITri.seq ?_
  refine ITri.seq ?_
  refine ITri.reg pokT ?_; simp -implicitDefEqProofs (disch := first | decide | exact of_eq_true (eq_true rfl) | omega | assumption) only [ ↓vcD, vcE, evs, evP, evB, intsOf, fillC, Value.cells, pt, List.append_nil, List.nil_append, List.cons_append, List.length_cons, List.length_nil, List.filter_nil, List.map_nil, ↓List.getElem?_cons_zero, ↓List.getElem?_cons_succ, List.getElem?_cons_zero, List.getElem?_cons_succ, List.set_cons_zero, List.set_cons_succ, Option.join_some, Option.join_none, Option.map_some, List.all_cons, List.all_nil, Value.oneCell', reduceIte, reduceCtorEq, Nat.reduceEqDiff, Nat.reduceAdd, Nat.reduceMul, Nat.reduceLT, Nat.reduceBEq, Nat.reduceLeDiff, Nat.reduceSub, List.size_toArray] -- r7
  refine ITri.block ?_ -- 0
  refine ITri.loop (fun k : Nat => [(1, .slice (some ⟨2, 0, none⟩) nw cw), (2, .slice (some ⟨3, 0, none⟩) nr cr), (3, pt 4), (7, .int .i64 (agP (·.2) life wear runs)), (8, .int .i64 (agP (·.1) life wear runs)), (10, .int .i64 (sT ts wear runs k)), (11, .int .i64 (ovI pT k)), (12, .int .i64 k)]) (fun _ => []) (fun k => Hp 4 (mT5 nt ct life ts wear runs)) (fun k => k ≤ nr) (fun k => nr - k) 0 (Nat.zero_le _) (Wk.sub ⟨rfl, rfl, rfl, rfl, rfl, rfl, rfl, rfl, trivial⟩) fun k hk => ?_
  refine ITri.seq ?_
  refine ITri.seq ?_
  refine ITri.reg pokT ?_; simp -implicitDefEqProofs (disch := first | decide | exact of_eq_true (eq_true rfl) | omega | assumption) only [ ↓vcD, vcE, evs, evP, evB, intsOf, fillC, Value.cells, pt, List.append_nil, List.nil_append, List.cons_append, List.length_cons, List.length_nil, List.filter_nil, List.map_nil, ↓List.getElem?_cons_zero, ↓List.getElem?_cons_succ, List.getElem?_cons_zero, List.getElem?_cons_succ, List.set_cons_zero, List.set_cons_succ, Option.join_some, Option.join_none, Option.map_some, List.all_cons, List.all_nil, Value.oneCell', reduceIte, reduceCtorEq, Nat.reduceEqDiff, Nat.reduceAdd, Nat.reduceMul, Nat.reduceLT, Nat.reduceBEq, Nat.reduceLeDiff, Nat.reduceSub, List.size_toArray] -- r8
  refine ITri.condD (by rfl) (fun h1 => ?_) (fun h1 => ?_) -- %53
  · have hkr : k < runs.length := by omega
    have hgr : (rows eN runs)[k]? = some (.int .i64 (nth runs k)) := getN hkr
    have hin := a5 _ (nth_mem hkr)
    have hin0 := hin.1
    have hin2 : ¬ nth runs k < 0 := by omega
    have hin1 : nth runs k < (nw : Int) := by omega
    have hin3 : ¬ (nw : Int) ≤ nth runs k := by omega
    have hkw : (nth runs k).toNat < wear.length := by omega
    have hrw := a4 _ (nth_mem hkw)
    have htk : takeC (rows eR wear) ((nth runs k).toNat * 2) 2 = some (eR (nth wear (nth runs k).toNat)) := takeR hkw
    have sS : sT ts wear runs (k + 1) = sT ts wear runs k + wB (nth wear (nth runs k).toNat) (tB ts k) + (nth wear (nth runs k).toNat).1 := rfl
    have wbd := wB_bd (b := tB ts k) hrw.2.1
    have b0 := bT k (by omega)
    have b1 := bT (k + 1) (by omega)
    have b2 := bH k (by omega)
    have b3 := bL k (by omega)
    have oT : ovI pT (k + 1) = if ovI pT k < 0 ∧ pT k = true then (k : Int) else ovI pT k := rfl
    obtain ⟨⟨ra, rb⟩, hab⟩ : ∃ r, nth wear (nth runs k).toNat = r := ⟨_, rfl⟩
    rw [hab] at hrw htk sS wbd
    have htk2 : takeC (rows eR wear) ((nth runs k).toNat * 2) 2 = some [.int .i64 ra, .int .i64 rb] := htk
    refine ITri.skip ?_; simp only [SeqQ_normal, BlkQ_normal]
    refine ITri.seq ?_
    refine ITri.block ?_ -- 1
    refine ITri.seq ?_
    refine ITri.seq ?_
    refine ITri.reg pokT ?_; simp -implicitDefEqProofs (disch := first | decide | exact of_eq_true (eq_true rfl) | omega | assumption) only [hgr, hin2, hin3, decide_false,  ↓vcD, vcE, evs, evP, evB, intsOf, fillC, Value.cells, pt, List.append_nil, List.nil_append, List.cons_append, List.length_cons, List.length_nil, List.filter_nil, List.map_nil, ↓List.getElem?_cons_zero, ↓List.getElem?_cons_succ, List.getElem?_cons_zero, List.getElem?_cons_succ, List.set_cons_zero, List.set_cons_succ, Option.join_some, Option.join_none, Option.map_some, List.all_cons, List.all_nil, Value.oneCell', reduceIte, reduceCtorEq, Nat.reduceEqDiff, Nat.reduceAdd, Nat.reduceMul, Nat.reduceLT, Nat.reduceBEq, Nat.reduceLeDiff, Nat.reduceSub, List.size_toArray] -- r10
    refine ITri.cond (v := false) rfl (fun h => by cases h) (fun _ => ?_); refine ITri.skip ?_; simp only [SeqQ_normal, BlkQ_normal]
    refine ITri.seq ?_
    refine ITri.reg pokT ?_; simp -implicitDefEqProofs (disch := first | decide | exact of_eq_true (eq_true rfl) | omega | assumption) only [hgr, htk2,  ↓vcD, vcE, evs, evP, evB, intsOf, fillC, Value.cells, pt, List.append_nil, List.nil_append, List.cons_append, List.length_cons, List.length_nil, List.filter_nil, List.map_nil, ↓List.getElem?_cons_zero, ↓List.getElem?_cons_succ, List.getElem?_cons_zero, List.getElem?_cons_succ, List.set_cons_zero, List.set_cons_succ, Option.join_some, Option.join_none, Option.map_some, List.all_cons, List.all_nil, Value.oneCell', reduceIte, reduceCtorEq, Nat.reduceEqDiff, Nat.reduceAdd, Nat.reduceMul, Nat.reduceLT, Nat.reduceBEq, Nat.reduceLeDiff, Nat.reduceSub, List.size_toArray] -- r12
    refine ITri.seq ?_
    refine ITri.seq ?_
    refine ITri.reg pokT ?_; simp -implicitDefEqProofs (disch := first | decide | exact of_eq_true (eq_true rfl) | omega | assumption) only [ ↓vcD, vcE, evs, evP, evB, intsOf, fillC, Value.cells, pt, List.append_nil, List.nil_append, List.cons_append, List.length_cons, List.length_nil, List.filter_nil, List.map_nil, ↓List.getElem?_cons_zero, ↓List.getElem?_cons_succ, List.getElem?_cons_zero, List.getElem?_cons_succ, List.set_cons_zero, List.set_cons_succ, Option.join_some, Option.join_none, Option.map_some, List.all_cons, List.all_nil, Value.oneCell', reduceIte, reduceCtorEq, Nat.reduceEqDiff, Nat.reduceAdd, Nat.reduceMul, Nat.reduceLT, Nat.reduceBEq, Nat.reduceLeDiff, Nat.reduceSub, List.size_toArray] -- r13
    refine ITri.cut (fun _ : Unit => [(1, .slice (some ⟨2, 0, none⟩) nw cw), (2, .slice (some ⟨3, 0, none⟩) nr cr), (3, pt 4), (7, .int .i64 (agP (·.2) life wear runs)), (8, .int .i64 (agP (·.1) life wear runs)), (10, .int .i64 (sT ts wear runs k)), (11, .int .i64 (ovI pT k)), (12, .int .i64 k), (13, pt 5), (14, .int .i64 (tB ts k))]) (fun _ => []) (fun _ => Hp 4 (mT5 nt ct life ts wear runs ++ [some (.cells ⟨[.int .i64 ra, .int .i64 rb], 1, false⟩)])) (fun _ => True) ?_ (fun _ _ => ?_)
    · refine ITri.condD (by rfl) (fun h6 => ?_) (fun h6 => ?_) -- %80
      · have hnt : 0 < nt := by omega
        have hkm : k % nt < ts.length := by rw [ht]; exact Nat.mod_lt _ hnt
        have eB : tB ts k = nth ts (k % nt) := by
          unfold tB
          rw [ht, if_neg (by omega)]
        have hbb := hu _ (nth_mem hkm)
        have hbg : (rows eU ts)[k % nt]? = some (.int .u16 (nth ts (k % nt))) := rows_get1 (f := eU) hkm
        have em : dvI .rem (k : Int) (nt : Int) = ((k % nt : Nat) : Int) := by
          rw [dvI_rem (by omega)]
          exact rfl
        rw [eB]
        have hle : k % nt ≤ k := Nat.mod_le _ _
        generalize k % nt = j at *
        refine ITri.draw pokT ?_; simp -implicitDefEqProofs (disch := first | decide | exact of_eq_true (eq_true rfl) | omega | assumption) only [em, hbg,  ↓vcD, vcE, evs, evP, evB, intsOf, fillC, Value.cells, pt, List.append_nil, List.nil_append, List.cons_append, List.length_cons, List.length_nil, List.filter_nil, List.map_nil, ↓List.getElem?_cons_zero, ↓List.getElem?_cons_succ, List.getElem?_cons_zero, List.getElem?_cons_succ, List.set_cons_zero, List.set_cons_succ, Option.join_some, Option.join_none, Option.map_some, List.all_cons, List.all_nil, Value.oneCell', reduceIte, reduceCtorEq, Nat.reduceEqDiff, Nat.reduceAdd, Nat.reduceMul, Nat.reduceLT, Nat.reduceBEq, Nat.reduceLeDiff, Nat.reduceSub, List.size_toArray] -- r14
        exact CutQ.mk () trivial (Wk.sub ⟨rfl, rfl, rfl, rfl, rfl, rfl, rfl, rfl, rfl, rfl, trivial⟩)
      · have eB : tB ts k = 0 := by
          unfold tB
          rw [ht, if_pos (by omega)]
        rw [eB]
        refine ITri.skip ?_
        exact CutQ.mk () trivial (Wk.sub ⟨rfl, rfl, rfl, rfl, rfl, rfl, rfl, rfl, rfl, rfl, trivial⟩)
    have tb0 : 0 ≤ tB ts k := by
      unfold tB
      split
      · exact Int.le_refl _
      · exact (hu _ (nth_mem (Nat.mod_lt _ (by omega)))).1
    refine ITri.seq ?_
    refine ITri.seq ?_
    refine ITri.reg pokT ?_; simp -implicitDefEqProofs (disch := first | decide | exact of_eq_true (eq_true rfl) | omega | assumption) only [ ↓vcD, vcE, evs, evP, evB, intsOf, fillC, Value.cells, pt, List.append_nil, List.nil_append, List.cons_append, List.length_cons, List.length_nil, List.filter_nil, List.map_nil, ↓List.getElem?_cons_zero, ↓List.getElem?_cons_succ, List.getElem?_cons_zero, List.getElem?_cons_succ, List.set_cons_zero, List.set_cons_succ, Option.join_some, Option.join_none, Option.map_some, List.all_cons, List.all_nil, Value.oneCell', reduceIte, reduceCtorEq, Nat.reduceEqDiff, Nat.reduceAdd, Nat.reduceMul, Nat.reduceLT, Nat.reduceBEq, Nat.reduceLeDiff, Nat.reduceSub, List.size_toArray] -- r15
    refine ITri.cut (fun _ : Unit => [(1, .slice (some ⟨2, 0, none⟩) nw cw), (2, .slice (some ⟨3, 0, none⟩) nr cr), (3, pt 4), (7, .int .i64 (agP (·.2) life wear runs)), (8, .int .i64 (agP (·.1) life wear runs)), (10, .int .i64 (sT ts wear runs k + wB (ra, rb) (tB ts k))), (11, .int .i64 (ovI pT k)), (12, .int .i64 k), (13, pt 5)]) (fun _ => []) (fun _ => Hp 4 (mT5 nt ct life ts wear runs ++ [some (.cells ⟨[.int .i64 ra, .int .i64 rb], 1, false⟩)])) (fun _ => True) ?_ (fun _ _ => ?_)
    · refine ITri.condD (by rfl) (fun h7 => ?_) (fun h7 => ?_) -- %95
      · have eW : wB (ra, rb) (tB ts k) = tB ts k % (rb - ra + 1) := if_pos h7
        have em : dvI .rem (tB ts k) (rb - ra + 1) = wB (ra, rb) (tB ts k) := by
          rw [dvI_rem tb0, eW]
        have hz : ¬ rb - ra + 1 = 0 := by omega
        refine ITri.reg pokT ?_; simp -implicitDefEqProofs (disch := first | decide | exact of_eq_true (eq_true rfl) | omega | assumption) only [em, hz,  ↓vcD, vcE, evs, evP, evB, intsOf, fillC, Value.cells, pt, List.append_nil, List.nil_append, List.cons_append, List.length_cons, List.length_nil, List.filter_nil, List.map_nil, ↓List.getElem?_cons_zero, ↓List.getElem?_cons_succ, List.getElem?_cons_zero, List.getElem?_cons_succ, List.set_cons_zero, List.set_cons_succ, Option.join_some, Option.join_none, Option.map_some, List.all_cons, List.all_nil, Value.oneCell', reduceIte, reduceCtorEq, Nat.reduceEqDiff, Nat.reduceAdd, Nat.reduceMul, Nat.reduceLT, Nat.reduceBEq, Nat.reduceLeDiff, Nat.reduceSub, List.size_toArray] -- r16
        exact CutQ.mk () trivial (Wk.sub ⟨rfl, rfl, rfl, rfl, rfl, rfl, rfl, rfl, rfl, trivial⟩)
      · have eW : wB (ra, rb) (tB ts k) = 0 := if_neg h7
        rw [eW, Int.add_zero]
        refine ITri.skip ?_
        exact CutQ.mk () trivial (Wk.sub ⟨rfl, rfl, rfl, rfl, rfl, rfl, rfl, rfl, rfl, trivial⟩)
    refine ITri.seq ?_
    refine ITri.reg pokT ?_; simp -implicitDefEqProofs (disch := first | decide | exact of_eq_true (eq_true rfl) | omega | assumption) only [ ↓vcD, vcE, evs, evP, evB, intsOf, fillC, Value.cells, pt, List.append_nil, List.nil_append, List.cons_append, List.length_cons, List.length_nil, List.filter_nil, List.map_nil, ↓List.getElem?_cons_zero, ↓List.getElem?_cons_succ, List.getElem?_cons_zero, List.getElem?_cons_succ, List.set_cons_zero, List.set_cons_succ, Option.join_some, Option.join_none, Option.map_some, List.all_cons, List.all_nil, Value.oneCell', reduceIte, reduceCtorEq, Nat.reduceEqDiff, Nat.reduceAdd, Nat.reduceMul, Nat.reduceLT, Nat.reduceBEq, Nat.reduceLeDiff, Nat.reduceSub, List.size_toArray] -- r17
    rw [← sS]
    refine ITri.cut (fun _ : Unit => [(1, .slice (some ⟨2, 0, none⟩) nw cw), (2, .slice (some ⟨3, 0, none⟩) nr cr), (3, pt 4), (7, .int .i64 (agP (·.2) life wear runs)), (8, .int .i64 (agP (·.1) life wear runs)), (10, .int .i64 (sT ts wear runs (k + 1))), (11, .int .i64 (ovI pT (k + 1))), (12, .int .i64 k)]) (fun _ => []) (fun _ => Hp 4 (mT5 nt ct life ts wear runs ++ [some (.cells ⟨[.int .i64 ra, .int .i64 rb], 1, false⟩)])) (fun _ => True) ?_ (fun _ _ => ?_)
    · refine ITri.seq ?_
      by_cases q1 : life < sT ts wear runs (k + 1)
      · by_cases q2 : ovI pT k < 0
        · rw [if_pos ⟨q2, by rw [pTk, decide_eq_true q1]⟩] at oT
          rw [oT]
          refine ITri.reg pokT ?_; simp -implicitDefEqProofs (disch := first | decide | exact of_eq_true (eq_true rfl) | omega | assumption) only [q1, q2, decide_true,  ↓vcD, vcE, evs, evP, evB, intsOf, fillC, Value.cells, pt, List.append_nil, List.nil_append, List.cons_append, List.length_cons, List.length_nil, List.filter_nil, List.map_nil, ↓List.getElem?_cons_zero, ↓List.getElem?_cons_succ, List.getElem?_cons_zero, List.getElem?_cons_succ, List.set_cons_zero, List.set_cons_succ, Option.join_some, Option.join_none, Option.map_some, List.all_cons, List.all_nil, Value.oneCell', reduceIte, reduceCtorEq, Nat.reduceEqDiff, Nat.reduceAdd, Nat.reduceMul, Nat.reduceLT, Nat.reduceBEq, Nat.reduceLeDiff, Nat.reduceSub, List.size_toArray]
          refine ITri.cond (v := true) rfl (fun _ => ?_) (fun h => by cases h)
          refine ITri.reg pokT ?_; simp -implicitDefEqProofs (disch := first | decide | exact of_eq_true (eq_true rfl) | omega | assumption) only [ ↓vcD, vcE, evs, evP, evB, intsOf, fillC, Value.cells, pt, List.append_nil, List.nil_append, List.cons_append, List.length_cons, List.length_nil, List.filter_nil, List.map_nil, ↓List.getElem?_cons_zero, ↓List.getElem?_cons_succ, List.getElem?_cons_zero, List.getElem?_cons_succ, List.set_cons_zero, List.set_cons_succ, Option.join_some, Option.join_none, Option.map_some, List.all_cons, List.all_nil, Value.oneCell', reduceIte, reduceCtorEq, Nat.reduceEqDiff, Nat.reduceAdd, Nat.reduceMul, Nat.reduceLT, Nat.reduceBEq, Nat.reduceLeDiff, Nat.reduceSub, List.size_toArray]
          exact CutQ.mk () trivial (Wk.sub ⟨rfl, rfl, rfl, rfl, rfl, rfl, rfl, rfl, trivial⟩)
        · rw [if_neg (fun h => q2 h.1)] at oT
          rw [oT]
          refine ITri.reg pokT ?_; simp -implicitDefEqProofs (disch := first | decide | exact of_eq_true (eq_true rfl) | omega | assumption) only [q1, q2, decide_true, decide_false,  ↓vcD, vcE, evs, evP, evB, intsOf, fillC, Value.cells, pt, List.append_nil, List.nil_append, List.cons_append, List.length_cons, List.length_nil, List.filter_nil, List.map_nil, ↓List.getElem?_cons_zero, ↓List.getElem?_cons_succ, List.getElem?_cons_zero, List.getElem?_cons_succ, List.set_cons_zero, List.set_cons_succ, Option.join_some, Option.join_none, Option.map_some, List.all_cons, List.all_nil, Value.oneCell', reduceIte, reduceCtorEq, Nat.reduceEqDiff, Nat.reduceAdd, Nat.reduceMul, Nat.reduceLT, Nat.reduceBEq, Nat.reduceLeDiff, Nat.reduceSub, List.size_toArray]
          refine ITri.cond (v := false) rfl (fun h => by cases h) (fun _ => ?_); refine ITri.skip ?_
          exact CutQ.mk () trivial (Wk.sub ⟨rfl, rfl, rfl, rfl, rfl, rfl, rfl, rfl, trivial⟩)
      · rw [if_neg (fun h => by rw [pTk, decide_eq_false q1] at h; cases h.2)] at oT
        rw [oT]
        refine ITri.reg pokT ?_; simp -implicitDefEqProofs (disch := first | decide | exact of_eq_true (eq_true rfl) | omega | assumption) only [q1, decide_false,  ↓vcD, vcE, evs, evP, evB, intsOf, fillC, Value.cells, pt, List.append_nil, List.nil_append, List.cons_append, List.length_cons, List.length_nil, List.filter_nil, List.map_nil, ↓List.getElem?_cons_zero, ↓List.getElem?_cons_succ, List.getElem?_cons_zero, List.getElem?_cons_succ, List.set_cons_zero, List.set_cons_succ, Option.join_some, Option.join_none, Option.map_some, List.all_cons, List.all_nil, Value.oneCell', reduceIte, reduceCtorEq, Nat.reduceEqDiff, Nat.reduceAdd, Nat.reduceMul, Nat.reduceLT, Nat.reduceBEq, Nat.reduceLeDiff, Nat.reduceSub, List.size_toArray]
        refine ITri.cond (v := false) rfl (fun h => by cases h) (fun _ => ?_); refine ITri.skip ?_
        exact CutQ.mk () trivial (Wk.sub ⟨rfl, rfl, rfl, rfl, rfl, rfl, rfl, rfl, trivial⟩)
    refine ITri.reg pokT ?_; simp -implicitDefEqProofs (disch := first | decide | exact of_eq_true (eq_true rfl) | omega | assumption) only [ ↓vcD, vcE, evs, evP, evB, intsOf, fillC, Value.cells, pt, List.append_nil, List.nil_append, List.cons_append, List.length_cons, List.length_nil, List.filter_nil, List.map_nil, ↓List.getElem?_cons_zero, ↓List.getElem?_cons_succ, List.getElem?_cons_zero, List.getElem?_cons_succ, List.set_cons_zero, List.set_cons_succ, Option.join_some, Option.join_none, Option.map_some, List.all_cons, List.all_nil, Value.oneCell', reduceIte, reduceCtorEq, Nat.reduceEqDiff, Nat.reduceAdd, Nat.reduceMul, Nat.reduceLT, Nat.reduceBEq, Nat.reduceLeDiff, Nat.reduceSub, List.size_toArray] -- r9
    exact LoopQ.next (k + 1) (by omega) (by omega) (Wk.gc [0, 1, 2, 3, 4] [] (of_decide_eq_true rfl) (of_decide_eq_true rfl) rfl rfl (of_decide_eq_true rfl) rfl rfl (fun _ h => by cases h) rfl (by simp -implicitDefEqProofs (disch := first | decide | exact of_eq_true (eq_true rfl) | omega | assumption) only [objOK, sgL, xiL, objAt, nilO, OM, mvL, mv, mvS, okS, okP, mvL_rows, okML, okM, okML_rows, List.getElem?_cons_zero, Option.getD_some, implies_true, imp_self, ne_eq, and_self, ↓vcD, vcE, evs, evP, evB, intsOf, fillC, Value.cells, pt, List.append_nil, List.nil_append, List.cons_append, List.length_cons, List.length_nil, List.filter_nil, List.map_nil, ↓List.getElem?_cons_zero, ↓List.getElem?_cons_succ, List.getElem?_cons_zero, List.getElem?_cons_succ, List.set_cons_zero, List.set_cons_succ, Option.join_some, Option.join_none, Option.map_some, List.all_cons, List.all_nil, Value.oneCell', reduceIte, reduceCtorEq, Nat.reduceEqDiff, Nat.reduceAdd, Nat.reduceMul, Nat.reduceLT, Nat.reduceBEq, Nat.reduceLeDiff, Nat.reduceSub, List.size_toArray]) (by simp -implicitDefEqProofs (disch := first | decide | exact of_eq_true (eq_true rfl) | omega | assumption) only [ valOK, sgL, xiL, mv, mvA, mvL, mvS, okS, okP, okM, okMA, okML, Option.getD_some, implies_true, and_self, Int.natCast_add, Int.cast_ofNat_Int, ↓vcD, vcE, evs, evP, evB, intsOf, fillC, Value.cells, pt, List.append_nil, List.nil_append, List.cons_append, List.length_cons, List.length_nil, List.filter_nil, List.map_nil, ↓List.getElem?_cons_zero, ↓List.getElem?_cons_succ, List.getElem?_cons_zero, List.getElem?_cons_succ, List.set_cons_zero, List.set_cons_succ, Option.join_some, Option.join_none, Option.map_some, List.all_cons, List.all_nil, Value.oneCell', reduceIte, reduceCtorEq, Nat.reduceEqDiff, Nat.reduceAdd, Nat.reduceMul, Nat.reduceLT, Nat.reduceBEq, Nat.reduceLeDiff, Nat.reduceSub, List.size_toArray]) (fun _ h => by cases h) ⟨rfl, fun _ h => by cases h⟩)
  refine ITri.exit ?_; try simp -implicitDefEqProofs (disch := first | decide | exact of_eq_true (eq_true rfl) | omega | assumption) only [ ↓vcD, vcE, evs, evP, evB, intsOf, fillC, Value.cells, pt, List.append_nil, List.nil_append, List.cons_append, List.length_cons, List.length_nil, List.filter_nil, List.map_nil, ↓List.getElem?_cons_zero, ↓List.getElem?_cons_succ, List.getElem?_cons_zero, List.getElem?_cons_succ, List.set_cons_zero, List.set_cons_succ, Option.join_some, Option.join_none, Option.map_some, List.all_cons, List.all_nil, Value.oneCell', reduceIte, reduceCtorEq, Nat.reduceEqDiff, Nat.reduceAdd, Nat.reduceMul, Nat.reduceLT, Nat.reduceBEq, Nat.reduceLeDiff, Nat.reduceSub, List.size_toArray]
  obtain rfl : nr = k := by omega
  have pm : ∀ (l : Int) (g : Rg → Int) (k : Nat), decide (l - sW g wear runs (k + 1) < 0) = true ↔ l < sW g wear runs (k + 1) := fun l g k => by
    rw [decide_eq_true_eq]
    omega
  have s1 : ovI pT nr < 0 ∨ 0 ≤ agP (·.2) life wear runs ∧ agP (·.2) life wear runs ≤ ovI pT nr := by
    unfold agP
    rw [hr]
    refine ov_soon nr fun k hk h => ?_
    rw [pTk, decide_eq_true_eq] at h
    have := bT (k + 1) (by omega)
    rw [pm]
    omega
  have s2 : agP (·.1) life wear runs < 0 ∨ 0 ≤ ovI pT nr ∧ ovI pT nr ≤ agP (·.1) life wear runs := by
    unfold agP
    rw [hr]
    refine ov_soon nr fun k hk h => ?_
    rw [pm] at h
    have := bT (k + 1) (by omega)
    rw [pTk, decide_eq_true_eq]
    omega
  have bd : ∀ g : Rg → Int, ¬ (nr : Int) ≤ agP g life wear runs ∧ ¬ agP g life wear runs < -1 := fun g => by
    unfold agP
    rw [hr]
    have := ov_rng (fun k => decide (life - sW g wear runs (k + 1) < 0)) nr
    omega
  obtain ⟨q1, q2⟩ := bd (·.2)
  obtain ⟨q3, q4⟩ := bd (·.1)
  refine ITri.seq ?_
  refine ITri.seq ?_
  refine ITri.reg pokT ?_; simp -implicitDefEqProofs (disch := first | decide | exact of_eq_true (eq_true rfl) | omega | assumption) only [ ↓vcD, vcE, evs, evP, evB, intsOf, fillC, Value.cells, pt, List.append_nil, List.nil_append, List.cons_append, List.length_cons, List.length_nil, List.filter_nil, List.map_nil, ↓List.getElem?_cons_zero, ↓List.getElem?_cons_succ, List.getElem?_cons_zero, List.getElem?_cons_succ, List.set_cons_zero, List.set_cons_succ, Option.join_some, Option.join_none, Option.map_some, List.all_cons, List.all_nil, Value.oneCell', reduceIte, reduceCtorEq, Nat.reduceEqDiff, Nat.reduceAdd, Nat.reduceMul, Nat.reduceLT, Nat.reduceBEq, Nat.reduceLeDiff, Nat.reduceSub, List.size_toArray] -- r20
  refine ⟨_, _, soon_f _ _ s1 (sees0 rfl (of_decide_eq_true rfl)), ?_⟩
  try simp -implicitDefEqProofs (disch := first | decide | exact of_eq_true (eq_true rfl) | omega | assumption) only [ ↓vcD, vcE, evs, evP, evB, intsOf, fillC, Value.cells, pt, List.append_nil, List.nil_append, List.cons_append, List.length_cons, List.length_nil, List.filter_nil, List.map_nil, ↓List.getElem?_cons_zero, ↓List.getElem?_cons_succ, List.getElem?_cons_zero, List.getElem?_cons_succ, List.set_cons_zero, List.set_cons_succ, Option.join_some, Option.join_none, Option.map_some, List.all_cons, List.all_nil, Value.oneCell', reduceIte, reduceCtorEq, Nat.reduceEqDiff, Nat.reduceAdd, Nat.reduceMul, Nat.reduceLT, Nat.reduceBEq, Nat.reduceLeDiff, Nat.reduceSub, List.size_toArray]
  refine ⟨_, _, soon_f _ _ s2 (sees0 rfl (of_decide_eq_true rfl)), ?_⟩
  simp -implicitDefEqProofs (disch := first | decide | exact of_eq_true (eq_true rfl) | omega | assumption) only [q1, q2, q3, q4, decide_false,  ↓vcD, vcE, evs, evP, evB, intsOf, fillC, Value.cells, pt, List.append_nil, List.nil_append, List.cons_append, List.length_cons, List.length_nil, List.filter_nil, List.map_nil, ↓List.getElem?_cons_zero, ↓List.getElem?_cons_succ, List.getElem?_cons_zero, List.getElem?_cons_succ, List.set_cons_zero, List.set_cons_succ, Option.join_some, Option.join_none, Option.map_some, List.all_cons, List.all_nil, Value.oneCell', reduceIte, reduceCtorEq, Nat.reduceEqDiff, Nat.reduceAdd, Nat.reduceMul, Nat.reduceLT, Nat.reduceBEq, Nat.reduceLeDiff, Nat.reduceSub, List.size_toArray]
  refine ITri.cond (v := false) rfl (fun h => by cases h) (fun _ => ?_); refine ITri.skip ?_; simp only [SeqQ_normal, BlkQ_normal]
  refine ITri.seq ?_
  refine ITri.seq ?_
  refine ITri.reg pokT ?_; simp -implicitDefEqProofs (disch := first | decide | exact of_eq_true (eq_true rfl) | omega | assumption) only [ ↓vcD, vcE, evs, evP, evB, intsOf, fillC, Value.cells, pt, List.append_nil, List.nil_append, List.cons_append, List.length_cons, List.length_nil, List.filter_nil, List.map_nil, ↓List.getElem?_cons_zero, ↓List.getElem?_cons_succ, List.getElem?_cons_zero, List.getElem?_cons_succ, List.set_cons_zero, List.set_cons_succ, Option.join_some, Option.join_none, Option.map_some, List.all_cons, List.all_nil, Value.oneCell', reduceIte, reduceCtorEq, Nat.reduceEqDiff, Nat.reduceAdd, Nat.reduceMul, Nat.reduceLT, Nat.reduceBEq, Nat.reduceLeDiff, Nat.reduceSub, List.size_toArray] -- r22
  refine ITri.condD (by rfl) (fun h2 => ?_) (fun h2 => ?_) -- %151
  · refine ITri.seq ?_
    refine ITri.reg pokT ?_; simp -implicitDefEqProofs (disch := first | decide | exact of_eq_true (eq_true rfl) | omega | assumption) only [ ↓vcD, vcE, evs, evP, evB, intsOf, fillC, Value.cells, pt, List.append_nil, List.nil_append, List.cons_append, List.length_cons, List.length_nil, List.filter_nil, List.map_nil, ↓List.getElem?_cons_zero, ↓List.getElem?_cons_succ, List.getElem?_cons_zero, List.getElem?_cons_succ, List.set_cons_zero, List.set_cons_succ, Option.join_some, Option.join_none, Option.map_some, List.all_cons, List.all_nil, Value.oneCell', reduceIte, reduceCtorEq, Nat.reduceEqDiff, Nat.reduceAdd, Nat.reduceMul, Nat.reduceLT, Nat.reduceBEq, Nat.reduceLeDiff, Nat.reduceSub, List.size_toArray] -- r23
    refine ⟨_, _, knownT, ?_⟩
    try simp -implicitDefEqProofs (disch := first | decide | exact of_eq_true (eq_true rfl) | omega | assumption) only [ ↓vcD, vcE, evs, evP, evB, intsOf, fillC, Value.cells, pt, List.append_nil, List.nil_append, List.cons_append, List.length_cons, List.length_nil, List.filter_nil, List.map_nil, ↓List.getElem?_cons_zero, ↓List.getElem?_cons_succ, List.getElem?_cons_zero, List.getElem?_cons_succ, List.set_cons_zero, List.set_cons_succ, Option.join_some, Option.join_none, Option.map_some, List.all_cons, List.all_nil, Value.oneCell', reduceIte, reduceCtorEq, Nat.reduceEqDiff, Nat.reduceAdd, Nat.reduceMul, Nat.reduceLT, Nat.reduceBEq, Nat.reduceLeDiff, Nat.reduceSub, List.size_toArray]
    refine ITri.ret ?_; exact EndR.plain (by simp) (by rfl) (by rfl) (by rfl)
  refine ITri.skip ?_; simp only [SeqQ_normal, BlkQ_normal]
  have he2 := ag_next he (by omega)
  have e2 : agF (life + 1) wear runs = (agP (·.2) (life + 1) wear runs, agP (·.1) (life + 1) wear runs, 0) := if_pos he2
  have s3 : ∀ g : Rg → Int, agP g (life + 1) wear runs < 0 ∨ 0 ≤ agP g life wear runs ∧ agP g life wear runs ≤ agP g (life + 1) wear runs := fun g => by
    unfold agP
    rw [hr]
    refine ov_soon nr fun k hk h => ?_
    rw [pm] at h ⊢
    omega
  refine ITri.seq ?_
  refine ITri.cut (fun _ : Unit => [(7, .int .i64 (agP (·.2) life wear runs)), (8, .int .i64 (agP (·.1) life wear runs)), (9, .int .i64 0), (15, .int .i64 (agP (·.2) (life + 1) wear runs)), (16, .int .i64 (agP (·.1) (life + 1) wear runs))]) (fun _ => []) (fun _ => Hp 4 (mT5 nt ct life ts wear runs)) (fun _ => True) ?_ (fun _ _ => ?_)
  · by_cases h1 : nw = 0
    · have e1 : wear = [] := List.eq_nil_of_length_eq_zero (by omega)
      subst h1
      subst e1
      by_cases h2 : nr = 0
      · have e3 : runs = [] := List.eq_nil_of_length_eq_zero (by omega)
        subst h2
        subst e3
        refine ITri.draw pokT ?_; simp -implicitDefEqProofs (disch := first | decide | exact of_eq_true (eq_true rfl) | omega | assumption) only [appK_0, rows_nil,  ↓vcD, vcE, evs, evP, evB, intsOf, fillC, Value.cells, pt, List.append_nil, List.nil_append, List.cons_append, List.length_cons, List.length_nil, List.filter_nil, List.map_nil, ↓List.getElem?_cons_zero, ↓List.getElem?_cons_succ, List.getElem?_cons_zero, List.getElem?_cons_succ, List.set_cons_zero, List.set_cons_succ, Option.join_some, Option.join_none, Option.map_some, List.all_cons, List.all_nil, Value.oneCell', reduceIte, reduceCtorEq, Nat.reduceEqDiff, Nat.reduceAdd, Nat.reduceMul, Nat.reduceLT, Nat.reduceBEq, Nat.reduceLeDiff, Nat.reduceSub, List.size_toArray]
        refine ⟨_, _, aged_f 0 0 (life + 1) [] [] rfl rfl (by omega) (by omega) (sees0 rfl (of_decide_eq_true rfl)) (Rd.hq rfl rfl) (Rd.hq rfl rfl), ?_⟩
        rw [e2]
        try simp -implicitDefEqProofs (disch := first | decide | exact of_eq_true (eq_true rfl) | omega | assumption) only [ ↓vcD, vcE, evs, evP, evB, intsOf, fillC, Value.cells, pt, List.append_nil, List.nil_append, List.cons_append, List.length_cons, List.length_nil, List.filter_nil, List.map_nil, ↓List.getElem?_cons_zero, ↓List.getElem?_cons_succ, List.getElem?_cons_zero, List.getElem?_cons_succ, List.set_cons_zero, List.set_cons_succ, Option.join_some, Option.join_none, Option.map_some, List.all_cons, List.all_nil, Value.oneCell', reduceIte, reduceCtorEq, Nat.reduceEqDiff, Nat.reduceAdd, Nat.reduceMul, Nat.reduceLT, Nat.reduceBEq, Nat.reduceLeDiff, Nat.reduceSub, List.size_toArray]
        exact CutQ.mk () trivial (Wk.gc [0, 1, 2, 3, 4] [] (of_decide_eq_true rfl) (of_decide_eq_true rfl) rfl rfl (of_decide_eq_true rfl) rfl rfl (by repeat (first | exact xiOK_nil | refine xiOK_cons (by first | trivial | exact roomOK _ (by decide)) ?_)) rfl (by simp -implicitDefEqProofs (disch := first | decide | exact of_eq_true (eq_true rfl) | omega | assumption) only [rows_nil, objOK, sgL, xiL, objAt, nilO, OM, mvL, mv, mvS, okS, okP, mvL_rows, okML, okM, okML_rows, List.getElem?_cons_zero, Option.getD_some, implies_true, imp_self, ne_eq, and_self, true_or, or_true, Nat.zero_mul, Nat.sub_self, openB_self, ↓vcD, vcE, evs, evP, evB, intsOf, fillC, Value.cells, pt, List.append_nil, List.nil_append, List.cons_append, List.length_cons, List.length_nil, List.filter_nil, List.map_nil, ↓List.getElem?_cons_zero, ↓List.getElem?_cons_succ, List.getElem?_cons_zero, List.getElem?_cons_succ, List.set_cons_zero, List.set_cons_succ, Option.join_some, Option.join_none, Option.map_some, List.all_cons, List.all_nil, Value.oneCell', reduceIte, reduceCtorEq, Nat.reduceEqDiff, Nat.reduceAdd, Nat.reduceMul, Nat.reduceLT, Nat.reduceBEq, Nat.reduceLeDiff, Nat.reduceSub, List.size_toArray]) (by simp -implicitDefEqProofs (disch := first | decide | exact of_eq_true (eq_true rfl) | omega | assumption) only [rows_nil, valOK, sgL, xiL, mv, mvA, mvL, mvS, okS, okP, okM, okMA, okML, Option.getD_some, implies_true, and_self, true_or, or_true, Int.natCast_add, Int.cast_ofNat_Int, Nat.zero_mul, Nat.sub_self, openB_self, ↓vcD, vcE, evs, evP, evB, intsOf, fillC, Value.cells, pt, List.append_nil, List.nil_append, List.cons_append, List.length_cons, List.length_nil, List.filter_nil, List.map_nil, ↓List.getElem?_cons_zero, ↓List.getElem?_cons_succ, List.getElem?_cons_zero, List.getElem?_cons_succ, List.set_cons_zero, List.set_cons_succ, Option.join_some, Option.join_none, Option.map_some, List.all_cons, List.all_nil, Value.oneCell', reduceIte, reduceCtorEq, Nat.reduceEqDiff, Nat.reduceAdd, Nat.reduceMul, Nat.reduceLT, Nat.reduceBEq, Nat.reduceLeDiff, Nat.reduceSub, List.size_toArray]) (fun _ h => by cases h) ⟨rfl, fun _ h => by cases h⟩)
      · refine ITri.draw pokT ?_; simp -implicitDefEqProofs (disch := first | decide | exact of_eq_true (eq_true rfl) | omega | assumption) only [appK_0, rows_nil, ht2, hl2, rows_allT,  ↓vcD, vcE, evs, evP, evB, intsOf, fillC, Value.cells, pt, List.append_nil, List.nil_append, List.cons_append, List.length_cons, List.length_nil, List.filter_nil, List.map_nil, ↓List.getElem?_cons_zero, ↓List.getElem?_cons_succ, List.getElem?_cons_zero, List.getElem?_cons_succ, List.set_cons_zero, List.set_cons_succ, Option.join_some, Option.join_none, Option.map_some, List.all_cons, List.all_nil, Value.oneCell', reduceIte, reduceCtorEq, Nat.reduceEqDiff, Nat.reduceAdd, Nat.reduceMul, Nat.reduceLT, Nat.reduceBEq, Nat.reduceLeDiff, Nat.reduceSub, List.size_toArray]
        refine ⟨_, _, aged_f 0 nr (life + 1) [] runs rfl hr (by omega) hb2 (sees0 rfl (of_decide_eq_true rfl)) (Rd.hq rfl rfl) (Rd.hq rfl rfl), ?_⟩
        rw [e2]
        try simp -implicitDefEqProofs (disch := first | decide | exact of_eq_true (eq_true rfl) | omega | assumption) only [ ↓vcD, vcE, evs, evP, evB, intsOf, fillC, Value.cells, pt, List.append_nil, List.nil_append, List.cons_append, List.length_cons, List.length_nil, List.filter_nil, List.map_nil, ↓List.getElem?_cons_zero, ↓List.getElem?_cons_succ, List.getElem?_cons_zero, List.getElem?_cons_succ, List.set_cons_zero, List.set_cons_succ, Option.join_some, Option.join_none, Option.map_some, List.all_cons, List.all_nil, Value.oneCell', reduceIte, reduceCtorEq, Nat.reduceEqDiff, Nat.reduceAdd, Nat.reduceMul, Nat.reduceLT, Nat.reduceBEq, Nat.reduceLeDiff, Nat.reduceSub, List.size_toArray]
        exact CutQ.mk () trivial (Wk.gc [0, 1, 2, 3, 4] [] (of_decide_eq_true rfl) (of_decide_eq_true rfl) rfl rfl (of_decide_eq_true rfl) rfl rfl (by repeat (first | exact xiOK_nil | refine xiOK_cons (by first | trivial | exact roomOK _ (by decide)) ?_)) rfl (by simp -implicitDefEqProofs (disch := first | decide | exact of_eq_true (eq_true rfl) | omega | assumption) only [rows_nil, objOK, sgL, xiL, objAt, nilO, OM, mvL, mv, mvS, okS, okP, mvL_rows, okML, okM, okML_rows, List.getElem?_cons_zero, Option.getD_some, implies_true, imp_self, ne_eq, and_self, true_or, or_true, Nat.zero_mul, Nat.sub_self, openB_self, ↓vcD, vcE, evs, evP, evB, intsOf, fillC, Value.cells, pt, List.append_nil, List.nil_append, List.cons_append, List.length_cons, List.length_nil, List.filter_nil, List.map_nil, ↓List.getElem?_cons_zero, ↓List.getElem?_cons_succ, List.getElem?_cons_zero, List.getElem?_cons_succ, List.set_cons_zero, List.set_cons_succ, Option.join_some, Option.join_none, Option.map_some, List.all_cons, List.all_nil, Value.oneCell', reduceIte, reduceCtorEq, Nat.reduceEqDiff, Nat.reduceAdd, Nat.reduceMul, Nat.reduceLT, Nat.reduceBEq, Nat.reduceLeDiff, Nat.reduceSub, List.size_toArray]) (by simp -implicitDefEqProofs (disch := first | decide | exact of_eq_true (eq_true rfl) | omega | assumption) only [rows_nil, valOK, sgL, xiL, mv, mvA, mvL, mvS, okS, okP, okM, okMA, okML, Option.getD_some, implies_true, and_self, true_or, or_true, Int.natCast_add, Int.cast_ofNat_Int, Nat.zero_mul, Nat.sub_self, openB_self, ↓vcD, vcE, evs, evP, evB, intsOf, fillC, Value.cells, pt, List.append_nil, List.nil_append, List.cons_append, List.length_cons, List.length_nil, List.filter_nil, List.map_nil, ↓List.getElem?_cons_zero, ↓List.getElem?_cons_succ, List.getElem?_cons_zero, List.getElem?_cons_succ, List.set_cons_zero, List.set_cons_succ, Option.join_some, Option.join_none, Option.map_some, List.all_cons, List.all_nil, Value.oneCell', reduceIte, reduceCtorEq, Nat.reduceEqDiff, Nat.reduceAdd, Nat.reduceMul, Nat.reduceLT, Nat.reduceBEq, Nat.reduceLeDiff, Nat.reduceSub, List.size_toArray]) (fun _ h => by cases h) ⟨rfl, fun _ h => by cases h⟩)
    · by_cases h2 : nr = 0
      · have e3 : runs = [] := List.eq_nil_of_length_eq_zero (by omega)
        subst h2
        subst e3
        refine ITri.draw pokT ?_; simp -implicitDefEqProofs (disch := first | decide | exact of_eq_true (eq_true rfl) | omega | assumption) only [appK_0, rows_nil, ht1, hl1, rows_allT,  ↓vcD, vcE, evs, evP, evB, intsOf, fillC, Value.cells, pt, List.append_nil, List.nil_append, List.cons_append, List.length_cons, List.length_nil, List.filter_nil, List.map_nil, ↓List.getElem?_cons_zero, ↓List.getElem?_cons_succ, List.getElem?_cons_zero, List.getElem?_cons_succ, List.set_cons_zero, List.set_cons_succ, Option.join_some, Option.join_none, Option.map_some, List.all_cons, List.all_nil, Value.oneCell', reduceIte, reduceCtorEq, Nat.reduceEqDiff, Nat.reduceAdd, Nat.reduceMul, Nat.reduceLT, Nat.reduceBEq, Nat.reduceLeDiff, Nat.reduceSub, List.size_toArray]
        refine ⟨_, _, aged_f nw 0 (life + 1) wear [] hw rfl hb (by omega) (sees0 rfl (of_decide_eq_true rfl)) (Rd.hq rfl rfl) (Rd.hq rfl rfl), ?_⟩
        rw [e2]
        try simp -implicitDefEqProofs (disch := first | decide | exact of_eq_true (eq_true rfl) | omega | assumption) only [ ↓vcD, vcE, evs, evP, evB, intsOf, fillC, Value.cells, pt, List.append_nil, List.nil_append, List.cons_append, List.length_cons, List.length_nil, List.filter_nil, List.map_nil, ↓List.getElem?_cons_zero, ↓List.getElem?_cons_succ, List.getElem?_cons_zero, List.getElem?_cons_succ, List.set_cons_zero, List.set_cons_succ, Option.join_some, Option.join_none, Option.map_some, List.all_cons, List.all_nil, Value.oneCell', reduceIte, reduceCtorEq, Nat.reduceEqDiff, Nat.reduceAdd, Nat.reduceMul, Nat.reduceLT, Nat.reduceBEq, Nat.reduceLeDiff, Nat.reduceSub, List.size_toArray]
        exact CutQ.mk () trivial (Wk.gc [0, 1, 2, 3, 4] [] (of_decide_eq_true rfl) (of_decide_eq_true rfl) rfl rfl (of_decide_eq_true rfl) rfl rfl (by repeat (first | exact xiOK_nil | refine xiOK_cons (by first | trivial | exact roomOK _ (by decide)) ?_)) rfl (by simp -implicitDefEqProofs (disch := first | decide | exact of_eq_true (eq_true rfl) | omega | assumption) only [rows_nil, objOK, sgL, xiL, objAt, nilO, OM, mvL, mv, mvS, okS, okP, mvL_rows, okML, okM, okML_rows, List.getElem?_cons_zero, Option.getD_some, implies_true, imp_self, ne_eq, and_self, true_or, or_true, Nat.zero_mul, Nat.sub_self, openB_self, ↓vcD, vcE, evs, evP, evB, intsOf, fillC, Value.cells, pt, List.append_nil, List.nil_append, List.cons_append, List.length_cons, List.length_nil, List.filter_nil, List.map_nil, ↓List.getElem?_cons_zero, ↓List.getElem?_cons_succ, List.getElem?_cons_zero, List.getElem?_cons_succ, List.set_cons_zero, List.set_cons_succ, Option.join_some, Option.join_none, Option.map_some, List.all_cons, List.all_nil, Value.oneCell', reduceIte, reduceCtorEq, Nat.reduceEqDiff, Nat.reduceAdd, Nat.reduceMul, Nat.reduceLT, Nat.reduceBEq, Nat.reduceLeDiff, Nat.reduceSub, List.size_toArray]) (by simp -implicitDefEqProofs (disch := first | decide | exact of_eq_true (eq_true rfl) | omega | assumption) only [rows_nil, valOK, sgL, xiL, mv, mvA, mvL, mvS, okS, okP, okM, okMA, okML, Option.getD_some, implies_true, and_self, true_or, or_true, Int.natCast_add, Int.cast_ofNat_Int, Nat.zero_mul, Nat.sub_self, openB_self, ↓vcD, vcE, evs, evP, evB, intsOf, fillC, Value.cells, pt, List.append_nil, List.nil_append, List.cons_append, List.length_cons, List.length_nil, List.filter_nil, List.map_nil, ↓List.getElem?_cons_zero, ↓List.getElem?_cons_succ, List.getElem?_cons_zero, List.getElem?_cons_succ, List.set_cons_zero, List.set_cons_succ, Option.join_some, Option.join_none, Option.map_some, List.all_cons, List.all_nil, Value.oneCell', reduceIte, reduceCtorEq, Nat.reduceEqDiff, Nat.reduceAdd, Nat.reduceMul, Nat.reduceLT, Nat.reduceBEq, Nat.reduceLeDiff, Nat.reduceSub, List.size_toArray]) (fun _ h => by cases h) ⟨rfl, fun _ h => by cases h⟩)
      · refine ITri.draw pokT ?_; simp -implicitDefEqProofs (disch := first | decide | exact of_eq_true (eq_true rfl) | omega | assumption) only [ht1, hl1, ht2, hl2, rows_allT,  ↓vcD, vcE, evs, evP, evB, intsOf, fillC, Value.cells, pt, List.append_nil, List.nil_append, List.cons_append, List.length_cons, List.length_nil, List.filter_nil, List.map_nil, ↓List.getElem?_cons_zero, ↓List.getElem?_cons_succ, List.getElem?_cons_zero, List.getElem?_cons_succ, List.set_cons_zero, List.set_cons_succ, Option.join_some, Option.join_none, Option.map_some, List.all_cons, List.all_nil, Value.oneCell', reduceIte, reduceCtorEq, Nat.reduceEqDiff, Nat.reduceAdd, Nat.reduceMul, Nat.reduceLT, Nat.reduceBEq, Nat.reduceLeDiff, Nat.reduceSub, List.size_toArray]
        refine ⟨_, _, aged_f nw nr (life + 1) wear runs hw hr hb hb2 (sees0 rfl (of_decide_eq_true rfl)) (Rd.hq rfl rfl) (Rd.hq rfl rfl), ?_⟩
        rw [e2]
        try simp -implicitDefEqProofs (disch := first | decide | exact of_eq_true (eq_true rfl) | omega | assumption) only [ ↓vcD, vcE, evs, evP, evB, intsOf, fillC, Value.cells, pt, List.append_nil, List.nil_append, List.cons_append, List.length_cons, List.length_nil, List.filter_nil, List.map_nil, ↓List.getElem?_cons_zero, ↓List.getElem?_cons_succ, List.getElem?_cons_zero, List.getElem?_cons_succ, List.set_cons_zero, List.set_cons_succ, Option.join_some, Option.join_none, Option.map_some, List.all_cons, List.all_nil, Value.oneCell', reduceIte, reduceCtorEq, Nat.reduceEqDiff, Nat.reduceAdd, Nat.reduceMul, Nat.reduceLT, Nat.reduceBEq, Nat.reduceLeDiff, Nat.reduceSub, List.size_toArray]
        exact CutQ.mk () trivial (Wk.gc [0, 1, 2, 3, 4] [] (of_decide_eq_true rfl) (of_decide_eq_true rfl) rfl rfl (of_decide_eq_true rfl) rfl rfl (fun _ h => by cases h) rfl (by simp -implicitDefEqProofs (disch := first | decide | exact of_eq_true (eq_true rfl) | omega | assumption) only [objOK, sgL, xiL, objAt, nilO, OM, mvL, mv, mvS, okS, okP, mvL_rows, okML, okM, okML_rows, List.getElem?_cons_zero, Option.getD_some, implies_true, imp_self, ne_eq, and_self, ↓vcD, vcE, evs, evP, evB, intsOf, fillC, Value.cells, pt, List.append_nil, List.nil_append, List.cons_append, List.length_cons, List.length_nil, List.filter_nil, List.map_nil, ↓List.getElem?_cons_zero, ↓List.getElem?_cons_succ, List.getElem?_cons_zero, List.getElem?_cons_succ, List.set_cons_zero, List.set_cons_succ, Option.join_some, Option.join_none, Option.map_some, List.all_cons, List.all_nil, Value.oneCell', reduceIte, reduceCtorEq, Nat.reduceEqDiff, Nat.reduceAdd, Nat.reduceMul, Nat.reduceLT, Nat.reduceBEq, Nat.reduceLeDiff, Nat.reduceSub, List.size_toArray]) (by simp -implicitDefEqProofs (disch := first | decide | exact of_eq_true (eq_true rfl) | omega | assumption) only [ valOK, sgL, xiL, mv, mvA, mvL, mvS, okS, okP, okM, okMA, okML, Option.getD_some, implies_true, and_self, Int.natCast_add, Int.cast_ofNat_Int, ↓vcD, vcE, evs, evP, evB, intsOf, fillC, Value.cells, pt, List.append_nil, List.nil_append, List.cons_append, List.length_cons, List.length_nil, List.filter_nil, List.map_nil, ↓List.getElem?_cons_zero, ↓List.getElem?_cons_succ, List.getElem?_cons_zero, List.getElem?_cons_succ, List.set_cons_zero, List.set_cons_succ, Option.join_some, Option.join_none, Option.map_some, List.all_cons, List.all_nil, Value.oneCell', reduceIte, reduceCtorEq, Nat.reduceEqDiff, Nat.reduceAdd, Nat.reduceMul, Nat.reduceLT, Nat.reduceBEq, Nat.reduceLeDiff, Nat.reduceSub, List.size_toArray]) (fun _ h => by cases h) ⟨rfl, fun _ h => by cases h⟩)
  refine ITri.seq ?_
  refine ITri.reg pokT ?_; simp -implicitDefEqProofs (disch := first | decide | exact of_eq_true (eq_true rfl) | omega | assumption) only [decide_true, eq_self,  ↓vcD, vcE, evs, evP, evB, intsOf, fillC, Value.cells, pt, List.append_nil, List.nil_append, List.cons_append, List.length_cons, List.length_nil, List.filter_nil, List.map_nil, ↓List.getElem?_cons_zero, ↓List.getElem?_cons_succ, List.getElem?_cons_zero, List.getElem?_cons_succ, List.set_cons_zero, List.set_cons_succ, Option.join_some, Option.join_none, Option.map_some, List.all_cons, List.all_nil, Value.oneCell', reduceIte, reduceCtorEq, Nat.reduceEqDiff, Nat.reduceAdd, Nat.reduceMul, Nat.reduceLT, Nat.reduceBEq, Nat.reduceLeDiff, Nat.reduceSub, List.size_toArray] -- r25
  refine ⟨_, _, soon_f _ _ (s3 (·.2)) (sees0 rfl (of_decide_eq_true rfl)), ?_⟩
  try simp -implicitDefEqProofs (disch := first | decide | exact of_eq_true (eq_true rfl) | omega | assumption) only [ ↓vcD, vcE, evs, evP, evB, intsOf, fillC, Value.cells, pt, List.append_nil, List.nil_append, List.cons_append, List.length_cons, List.length_nil, List.filter_nil, List.map_nil, ↓List.getElem?_cons_zero, ↓List.getElem?_cons_succ, List.getElem?_cons_zero, List.getElem?_cons_succ, List.set_cons_zero, List.set_cons_succ, Option.join_some, Option.join_none, Option.map_some, List.all_cons, List.all_nil, Value.oneCell', reduceIte, reduceCtorEq, Nat.reduceEqDiff, Nat.reduceAdd, Nat.reduceMul, Nat.reduceLT, Nat.reduceBEq, Nat.reduceLeDiff, Nat.reduceSub, List.size_toArray]
  refine ⟨_, _, soon_f _ _ (s3 (·.1)) (sees0 rfl (of_decide_eq_true rfl)), ?_⟩
  try simp -implicitDefEqProofs (disch := first | decide | exact of_eq_true (eq_true rfl) | omega | assumption) only [ ↓vcD, vcE, evs, evP, evB, intsOf, fillC, Value.cells, pt, List.append_nil, List.nil_append, List.cons_append, List.length_cons, List.length_nil, List.filter_nil, List.map_nil, ↓List.getElem?_cons_zero, ↓List.getElem?_cons_succ, List.getElem?_cons_zero, List.getElem?_cons_succ, List.set_cons_zero, List.set_cons_succ, Option.join_some, Option.join_none, Option.map_some, List.all_cons, List.all_nil, Value.oneCell', reduceIte, reduceCtorEq, Nat.reduceEqDiff, Nat.reduceAdd, Nat.reduceMul, Nat.reduceLT, Nat.reduceBEq, Nat.reduceLeDiff, Nat.reduceSub, List.size_toArray]
  refine ⟨_, _, knownT, ?_⟩
  try simp -implicitDefEqProofs (disch := first | decide | exact of_eq_true (eq_true rfl) | omega | assumption) only [ ↓vcD, vcE, evs, evP, evB, intsOf, fillC, Value.cells, pt, List.append_nil, List.nil_append, List.cons_append, List.length_cons, List.length_nil, List.filter_nil, List.map_nil, ↓List.getElem?_cons_zero, ↓List.getElem?_cons_succ, List.getElem?_cons_zero, List.getElem?_cons_succ, List.set_cons_zero, List.set_cons_succ, Option.join_some, Option.join_none, Option.map_some, List.all_cons, List.all_nil, Value.oneCell', reduceIte, reduceCtorEq, Nat.reduceEqDiff, Nat.reduceAdd, Nat.reduceMul, Nat.reduceLT, Nat.reduceBEq, Nat.reduceLeDiff, Nat.reduceSub, List.size_toArray]
  refine ITri.ret ?_; exact EndR.plain (by simp) (by rfl) (by rfl) (by rfl)
end Go.Proofs.Ytfmcdbcoljpomaa
