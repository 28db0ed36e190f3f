/-
  Chapters 1 and 8 at the top: words of 128 bits: Div64 by a number of at most 32 bits.
-/
import Derived.Test.YtlhhkmkclmedgaaPorA
set_option linter.unusedSimpArgs false
set_option linter.unusedVariables false
namespace Go.Proofs.Ytlhhkmkclmedgaa
open Go.RowKit Go.Vm
set_option maxRecDepth 100000

theorem sh_n (L : Nat) (h : L ≤ 32) : min (64 - (L : Int)).toNat IntKind.u64.bits = 64 - L := by
  rw [show IntKind.u64.bits = 64 from rfl]; omega
theorem sh_m (L : Nat) (h : L ≤ 32) : min (64 - (64 - (L : Int))).toNat IntKind.u64.bits = L := by
  rw [show IntKind.u64.bits = 64 from rfl]; omega
theorem pw_n (L : Nat) (h : L ≤ 32) : (2 : Int) ^ (64 - L) = 2 ^ (32 - L) * 4294967296 := by
  rw [show 64 - L = (32 - L) + 32 by omega, Int.pow_add]; rfl
theorem pw_m (L : Nat) (h : L ≤ 32) : (2 : Int) ^ (32 - L) * 2 ^ L = 4294967296 := by
  rw [← Int.pow_add, show 32 - L + L = 32 by omega]; rfl
theorem shr32 (a : Int) (h : 0 ≤ a) : shI .shr .u64 a 32 = a / 4294967296 := by
  show a.fdiv (2 ^ (min (32 : Int).toNat IntKind.u64.bits)) = _
  rw [show (2 : Int) ^ (min (32 : Int).toNat IntKind.u64.bits) = 4294967296 from rfl, Int.fdiv_eq_ediv_of_nonneg _ (by omega)]
theorem and32 (a : Int) (h : 0 ≤ a) (h1 : a < 18446744073709551616) : btI .and .u64 a 4294967295 = a % 4294967296 := mask32 a h h1
theorem or_add (a b : Int) (i : Nat) (hi : i ≤ 64) (h0 : 0 ≤ a) (hb : 0 ≤ b) (hb1 : b < 2 ^ i) (hs : a * 2 ^ i + b < 18446744073709551616) : btI .or .u64 (a * 2 ^ i) b = a * 2 ^ i + b := by
  obtain ⟨m, rfl⟩ := Int.eq_ofNat_of_zero_le h0
  obtain ⟨n, rfl⟩ := Int.eq_ofNat_of_zero_le hb
  have e : ((m : Int) * 2 ^ i) = ((m * 2 ^ i : Nat) : Int) := by simp
  rw [e] at hs ⊢
  have h2 : n < 2 ^ i := by
    have : ((2 : Int) ^ i) = ((2 ^ i : Nat) : Int) := by simp
    rw [this] at hb1
    omega
  have := bits_or_u64_nat (m * 2 ^ i) n (by omega) (by omega)
  refine (show btI .or .u64 _ _ = _ from this).trans ?_
  rw [Nat.mul_comm, ← Nat.two_pow_add_eq_or_of_lt h2]
  omega
/-- The numbers of a division by a number of at most 32 bits. -/
theorem div_pack (hi lo y : Int) (L : Nat) (hL2 : L ≤ 32) (hy : 1 ≤ y) (hL3 : y < 2 ^ L) (hL4 : (2 : Int) ^ L ≤ 2 * y) (hh : 0 ≤ hi) (hh1 : hi < y) (hl : 0 ≤ lo) (hl1 : lo < 18446744073709551616) :
    ∃ e u v T : Int, 1 ≤ T ∧ e = y * T ∧ u * 4294967296 + v = (hi * 18446744073709551616 + lo) * T ∧ 1 ≤ e ∧ e < 4294967296 ∧ 0 ≤ u ∧ u < e * 4294967296 ∧ 0 ≤ v ∧ v < 4294967296
      ∧ shI .shl .u64 y (64 - (L : Int)) = e * 4294967296
      ∧ btI .or .u64 (shI .shl .u64 hi (64 - (L : Int))) (shI .shr .u64 lo (64 - (64 - (L : Int)))) = u
      ∧ shI .shl .u64 lo (64 - (L : Int)) = v * 4294967296
      ∧ ∀ a, 0 ≤ a → shI .shr .u64 (a * T * 4294967296) (64 - (L : Int)) = a := by
  have hT := pw_m L hL2
  have hN := pw_n L hL2
  have hTp : (0 : Int) < 2 ^ (32 - L) := Int.pow_pos (by omega)
  have hLp : (0 : Int) < 2 ^ L := Int.pow_pos (by omega)
  have hshl : ∀ a : Int, shI .shl .u64 a (64 - (L : Int)) = IntKind.u64.wrap (a * (2 ^ (32 - L) * 4294967296)) := fun a => by
    show IntKind.u64.wrap (a * 2 ^ (min (64 - (L : Int)).toNat IntKind.u64.bits)) = _
    rw [sh_n L hL2, hN]
  have hshr : ∀ a : Int, shI .shr .u64 a (64 - (L : Int)) = a / (2 ^ (32 - L) * 4294967296) := fun a => by
    show a.fdiv (2 ^ (min (64 - (L : Int)).toNat IntKind.u64.bits)) = _
    rw [sh_n L hL2, hN, Int.fdiv_eq_ediv_of_nonneg _ (by omega)]
  have hshm : shI .shr .u64 lo (64 - (64 - (L : Int))) = lo / 2 ^ L := by
    show lo.fdiv (2 ^ (min (64 - (64 - (L : Int))).toNat IntKind.u64.bits)) = _
    rw [sh_m L hL2, Int.fdiv_eq_ediv_of_nonneg _ (by omega)]
  have hor := or_add hi (lo / 2 ^ L) (64 - L) (by omega) hh
  rw [hN] at hor
  generalize (2 : Int) ^ (32 - L) = T at *
  generalize (2 : Int) ^ L = M at *
  -- M T = 2^32, y < M, M ≤ 2 y
  have hyT : y * T < 4294967296 := by rw [← hT, Int.mul_comm T M]; exact Int.mul_lt_mul_of_pos_right hL3 hTp
  have hhT : hi * T + T ≤ y * T := by
    have := Int.mul_le_mul_of_nonneg_right (show hi + 1 ≤ y by omega) (show 0 ≤ T by omega)
    rw [Int.add_mul, Int.one_mul] at this
    exact this
  have hh0 : 0 ≤ hi * T := Int.mul_nonneg hh (by omega)
  have hl2 : lo / M < T * 4294967296 := by
    refine Int.ediv_lt_of_lt_mul hLp ?_
    rw [show T * 4294967296 * M = T * M * 4294967296 by grind, hT]
    omega
  have hl0 : 0 ≤ lo / M := Int.ediv_nonneg hl (by omega)
  have hdm : lo = M * (lo / M) + lo % M := (Int.mul_ediv_add_emod lo M).symm
  have hr0 : 0 ≤ lo % M := Int.emod_nonneg _ (by omega)
  have hr1 : lo % M < M := Int.emod_lt_of_pos _ hLp
  generalize lo / M = c at *
  generalize lo % M = r at *
  have hrT0 : 0 ≤ r * T := Int.mul_nonneg hr0 (by omega)
  have hrT1 : r * T < 4294967296 := by rw [← hT, Int.mul_comm T M]; exact Int.mul_lt_mul_of_pos_right hr1 hTp
  have e1 : hi * (T * 4294967296) = hi * T * 4294967296 := by grind
  have e2 : y * (T * 4294967296) = y * T * 4294967296 := by grind
  have e3 : lo * (T * 4294967296) = r * T * 4294967296 + c * 18446744073709551616 := by
    rw [hdm, show (M * c + r) * (T * 4294967296) = (T * M) * c * 4294967296 + r * T * 4294967296 by grind, hT]; omega
  have hyT1 : 1 ≤ y * T := by
    have := Int.mul_le_mul_of_nonneg_right hy (show 0 ≤ T by omega)
    omega
  refine ⟨y * T, hi * T * 4294967296 + c, r * T, T, by omega, rfl, ?_, hyT1, hyT, by omega, ?_, hrT0, hrT1, ?_, ?_, ?_, ?_⟩
  · rw [show (hi * 18446744073709551616 + lo) * T = hi * T * 18446744073709551616 + lo * T by grind]
    have : lo * T = c * 4294967296 + r * T := by
      rw [hdm, show (M * c + r) * T = (T * M) * c + r * T by grind, hT]; omega
    rw [this]
    omega
  · omega
  · rw [hshl, e2, wrapU _ (by omega) (by omega)]
  · rw [hshl, hshm, e1, wrapU _ (by omega) (by omega), ← e1, hor hl0 hl2 (by rw [e1]; omega)]
  · rw [hshl, e3, IntKind.wrap_u64]
    omega
  · intro a ha
    rw [hshr, show a * T * 4294967296 = a * (T * 4294967296) by grind]
    exact Int.mul_ediv_cancel _ (by omega)

/- math/bits.LeadingZeros64 · slots 6 · names 0:x 1:x · results [2] -/
def ir77_r0 : IC := .reg [⟨some 2, none, false, .mv (.k (.int .i64 0))⟩] (some [0])
def ir77_r1 : IC := .reg [⟨some 3, none, false, .mv (.t 0)⟩,
  ⟨some 4, none, false, .call (.f 83) [(.t 3)]⟩,
  ⟨some 5, none, false, .ar .sub (.k (.int .i64 64)) (.t 4)⟩,
  ⟨some 2, none, false, .mv (.t 5)⟩] (some [2])
def ir77_1 : IC := .seq ir77_r1 .ret
def ir77_2 : IC := .seq ir77_r0 ir77_1
def ir77 : IC := ir77_2
theorem fn77 : FnIs Try.prog 77 ir77 6 [.tmp 2] := ⟨Try.f77, Try.f77.body.getD .skip, Try.func77, by kernel_rfl, by kernel_rfl, by kernel_rfl, by kernel_rfl⟩
/- math/bits.Div64 · slots 135 · names 0:hi 1:lo 2:y 3:hi 4:lo 5:y 6:quo 7:rem 8:s 9:yn1 10:yn0 11:un32 12:un10 13:un1 14:un0 15:q1 16:rhat 17:un21 18:q0 · results [6, 7] -/
def ir68_r0 : IC := .reg [⟨some 6, none, false, .mv (.k (.int .u64 0))⟩,
  ⟨some 7, none, false, .mv (.k (.int .u64 0))⟩] (some [0, 1, 2])
def ir68_r1 : IC := .reg [⟨some 19, none, false, .mv (.t 2)⟩,
  ⟨some 20, none, false, .cmp .eql (.t 19) (.k (.int .u64 0))⟩] (some [0, 1, 2, 20])
def ir68_1 : IC := .cond (.t 20) .bad .skip
def ir68_2 : IC := .seq ir68_r1 ir68_1
def ir68_r3 : IC := .reg [⟨some 22, none, false, .mv (.t 2)⟩,
  ⟨some 23, none, false, .mv (.t 0)⟩,
  ⟨some 24, none, false, .cmp .leq (.t 22) (.t 23)⟩] (some [0, 1, 2, 24])
def ir68_3 : IC := .cond (.t 24) .bad .skip
def ir68_4 : IC := .seq ir68_r3 ir68_3
def ir68_r5 : IC := .reg [⟨some 26, none, false, .mv (.t 0)⟩,
  ⟨some 27, none, false, .cmp .eql (.t 26) (.k (.int .u64 0))⟩] (some [0, 1, 2, 27])
def ir68_r6 : IC := .draw [(⟨some 28, none, false, .mv (.t 1)⟩, false, 0, 0),
  (⟨some 29, none, false, .mv (.t 2)⟩, false, 0, 0),
  (⟨some 30, none, false, .div .quo (.t 28) (.t 29)⟩, false, 3, 0),
  (⟨some 31, none, false, .mv (.t 1)⟩, false, 0, 0),
  (⟨some 32, none, false, .mv (.t 2)⟩, false, 0, 0),
  (⟨some 33, none, false, .div .rem (.t 31) (.t 32)⟩, false, 24, 0),
  (⟨some 6, none, false, .mv (.t 30)⟩, false, 7, 0),
  (⟨some 7, none, false, .mv (.t 33)⟩, false, 127, 0)] (some [6, 7])
def ir68_5 : IC := .seq ir68_r6 .ret
def ir68_6 : IC := .cond (.t 27) ir68_5 .skip
def ir68_7 : IC := .seq ir68_r5 ir68_6
def ir68_r7 : IC := .reg [⟨some 34, none, false, .mv (.t 2)⟩,
  ⟨some 35, none, false, .call (.f 77) [(.t 34)]⟩,
  ⟨some 36, none, false, .conv .u64 (.t 35)⟩,
  ⟨some 8, none, false, .mv (.t 36)⟩] (some [0, 1, 2, 8])
def ir68_r8 : IC := .reg [⟨some 37, none, false, .mv (.t 2)⟩,
  ⟨some 38, none, false, .mv (.t 8)⟩,
  ⟨some 39, none, false, .shf .shl (.t 37) (.t 38)⟩,
  ⟨some 2, none, false, .mv (.t 39)⟩] (some [0, 1, 2, 8])
def ir68_r9 : IC := .reg [⟨some 40, none, false, .mv (.t 2)⟩,
  ⟨some 41, none, false, .shf .shr (.t 40) (.k (.int .u64 32))⟩,
  ⟨some 9, none, false, .mv (.t 41)⟩] (some [0, 1, 2, 8, 9])
def ir68_r10 : IC := .reg [⟨some 42, none, false, .mv (.t 2)⟩,
  ⟨some 43, none, false, .bits .and (.t 42) (.k (.int .u64 4294967295))⟩,
  ⟨some 10, none, false, .mv (.t 43)⟩] (some [0, 1, 2, 8, 9, 10])
def ir68_r11 : IC := .reg [⟨some 44, none, false, .mv (.t 0)⟩,
  ⟨some 45, none, false, .mv (.t 8)⟩,
  ⟨some 46, none, false, .shf .shl (.t 44) (.t 45)⟩,
  ⟨some 47, none, false, .mv (.t 1)⟩,
  ⟨some 48, none, false, .mv (.t 8)⟩,
  ⟨some 49, none, false, .ar .sub (.k (.int .u64 64)) (.t 48)⟩,
  ⟨some 50, none, false, .shf .shr (.t 47) (.t 49)⟩,
  ⟨some 51, none, false, .bits .or (.t 46) (.t 50)⟩,
  ⟨some 11, none, false, .mv (.t 51)⟩] (some [1, 2, 8, 9, 10, 11])
def ir68_r12 : IC := .reg [⟨some 52, none, false, .mv (.t 1)⟩,
  ⟨some 53, none, false, .mv (.t 8)⟩,
  ⟨some 54, none, false, .shf .shl (.t 52) (.t 53)⟩,
  ⟨some 12, none, false, .mv (.t 54)⟩] (some [2, 8, 9, 10, 11, 12])
def ir68_r13 : IC := .reg [⟨some 55, none, false, .mv (.t 12)⟩,
  ⟨some 56, none, false, .shf .shr (.t 55) (.k (.int .u64 32))⟩,
  ⟨some 13, none, false, .mv (.t 56)⟩] (some [2, 8, 9, 10, 11, 12, 13])
def ir68_r14 : IC := .reg [⟨some 57, none, false, .mv (.t 12)⟩,
  ⟨some 58, none, false, .bits .and (.t 57) (.k (.int .u64 4294967295))⟩,
  ⟨some 14, none, false, .mv (.t 58)⟩] (some [2, 8, 9, 10, 11, 13, 14])
def ir68_r15 : IC := .reg [⟨some 59, none, false, .mv (.t 11)⟩,
  ⟨some 60, none, false, .mv (.t 9)⟩,
  ⟨some 61, none, false, .div .quo (.t 59) (.t 60)⟩,
  ⟨some 15, none, false, .mv (.t 61)⟩] (some [2, 8, 9, 10, 11, 13, 14, 15])
def ir68_r16 : IC := .reg [⟨some 62, none, false, .mv (.t 11)⟩,
  ⟨some 63, none, false, .mv (.t 15)⟩,
  ⟨some 64, none, false, .mv (.t 9)⟩,
  ⟨some 65, none, false, .ar .mul (.t 63) (.t 64)⟩,
  ⟨some 66, none, false, .ar .sub (.t 62) (.t 65)⟩,
  ⟨some 16, none, false, .mv (.t 66)⟩] (some [2, 8, 9, 10, 11, 13, 14, 15, 16])
def ir68_r17 : IC := .reg [⟨some 67, none, false, .mv (.t 15)⟩,
  ⟨some 68, none, false, .cmp .geq (.t 67) (.k (.int .u64 4294967296))⟩,
  ⟨some 69, none, false, .mv (.t 68)⟩,
  ⟨some 70, some (69, false), false, .mv (.t 15)⟩,
  ⟨some 71, some (69, false), false, .mv (.t 10)⟩,
  ⟨some 72, some (69, false), false, .ar .mul (.t 70) (.t 71)⟩,
  ⟨some 73, some (69, false), false, .mv (.t 16)⟩,
  ⟨some 74, some (69, false), false, .ar .mul (.k (.int .u64 4294967296)) (.t 73)⟩,
  ⟨some 75, some (69, false), false, .mv (.t 13)⟩,
  ⟨some 76, some (69, false), false, .ar .add (.t 74) (.t 75)⟩,
  ⟨some 77, some (69, false), false, .cmp .gtr (.t 72) (.t 76)⟩,
  ⟨some 78, none, false, .pick (.t 69) (.k (.bool true)) (.t 77)⟩] (some [2, 8, 9, 10, 11, 13, 14, 15, 16, 78])
def ir68_8 : IC := .cond (.t 78) .skip (.exit 0)
def ir68_9 : IC := .seq ir68_r17 ir68_8
def ir68_r18 : IC := .reg [⟨some 79, none, false, .mv (.t 15)⟩,
  ⟨some 80, none, false, .ar .sub (.t 79) (.k (.int .u64 1))⟩,
  ⟨some 15, none, false, .mv (.t 80)⟩] (some [2, 8, 9, 10, 11, 13, 14, 15, 16])
def ir68_r19 : IC := .reg [⟨some 81, none, false, .mv (.t 16)⟩,
  ⟨some 82, none, false, .mv (.t 9)⟩,
  ⟨some 83, none, false, .ar .add (.t 81) (.t 82)⟩,
  ⟨some 16, none, false, .mv (.t 83)⟩] (some [2, 8, 9, 10, 11, 13, 14, 15, 16])
def ir68_r20 : IC := .reg [⟨some 84, none, false, .mv (.t 16)⟩,
  ⟨some 85, none, false, .cmp .geq (.t 84) (.k (.int .u64 4294967296))⟩] (some [2, 8, 9, 10, 11, 13, 14, 15, 16, 85])
def ir68_10 : IC := .cond (.t 85) (.exit 0) .skip
def ir68_11 : IC := .seq ir68_r20 ir68_10
def ir68_12 : IC := .seq ir68_r19 ir68_11
def ir68_13 : IC := .seq ir68_r18 ir68_12
def ir68_14 : IC := .block 1 ir68_13
def ir68_15 : IC := .seq ir68_9 ir68_14
def ir68_16 : IC := .loop ir68_15
def ir68_17 : IC := .block 0 ir68_16
def ir68_r21 : IC := .reg [⟨some 86, none, false, .mv (.t 11)⟩,
  ⟨some 87, none, true, .ar .mul (.t 86) (.k (.int .u64 4294967296))⟩,
  ⟨some 88, none, false, .mv (.t 13)⟩,
  ⟨some 89, none, true, .ar .add (.t 87) (.t 88)⟩,
  ⟨some 90, none, false, .mv (.t 15)⟩,
  ⟨some 91, none, false, .mv (.t 2)⟩,
  ⟨some 92, none, true, .ar .mul (.t 90) (.t 91)⟩,
  ⟨some 93, none, true, .ar .sub (.t 89) (.t 92)⟩,
  ⟨some 17, none, false, .mv (.t 93)⟩] (some [2, 8, 9, 10, 14, 15, 17])
def ir68_r22 : IC := .reg [⟨some 94, none, false, .mv (.t 17)⟩,
  ⟨some 95, none, false, .mv (.t 9)⟩,
  ⟨some 96, none, false, .div .quo (.t 94) (.t 95)⟩,
  ⟨some 18, none, false, .mv (.t 96)⟩] (some [2, 8, 9, 10, 14, 15, 17, 18])
def ir68_r23 : IC := .reg [⟨some 97, none, false, .mv (.t 17)⟩,
  ⟨some 98, none, false, .mv (.t 18)⟩,
  ⟨some 99, none, false, .mv (.t 9)⟩,
  ⟨some 100, none, false, .ar .mul (.t 98) (.t 99)⟩,
  ⟨some 101, none, false, .ar .sub (.t 97) (.t 100)⟩,
  ⟨some 16, none, false, .mv (.t 101)⟩] (some [2, 8, 9, 10, 14, 15, 16, 17, 18])
def ir68_r24 : IC := .reg [⟨some 102, none, false, .mv (.t 18)⟩,
  ⟨some 103, none, false, .cmp .geq (.t 102) (.k (.int .u64 4294967296))⟩,
  ⟨some 104, none, false, .mv (.t 103)⟩,
  ⟨some 105, some (104, false), false, .mv (.t 18)⟩,
  ⟨some 106, some (104, false), false, .mv (.t 10)⟩,
  ⟨some 107, some (104, false), false, .ar .mul (.t 105) (.t 106)⟩,
  ⟨some 108, some (104, false), false, .mv (.t 16)⟩,
  ⟨some 109, some (104, false), false, .ar .mul (.k (.int .u64 4294967296)) (.t 108)⟩,
  ⟨some 110, some (104, false), false, .mv (.t 14)⟩,
  ⟨some 111, some (104, false), false, .ar .add (.t 109) (.t 110)⟩,
  ⟨some 112, some (104, false), false, .cmp .gtr (.t 107) (.t 111)⟩,
  ⟨some 113, none, false, .pick (.t 104) (.k (.bool true)) (.t 112)⟩] (some [2, 8, 9, 10, 14, 15, 16, 17, 18, 113])
def ir68_18 : IC := .cond (.t 113) .skip (.exit 2)
def ir68_19 : IC := .seq ir68_r24 ir68_18
def ir68_r25 : IC := .reg [⟨some 114, none, false, .mv (.t 18)⟩,
  ⟨some 115, none, false, .ar .sub (.t 114) (.k (.int .u64 1))⟩,
  ⟨some 18, none, false, .mv (.t 115)⟩] (some [2, 8, 9, 10, 14, 15, 16, 17, 18])
def ir68_r26 : IC := .reg [⟨some 116, none, false, .mv (.t 16)⟩,
  ⟨some 117, none, false, .mv (.t 9)⟩,
  ⟨some 118, none, false, .ar .add (.t 116) (.t 117)⟩,
  ⟨some 16, none, false, .mv (.t 118)⟩] (some [2, 8, 9, 10, 14, 15, 16, 17, 18])
def ir68_r27 : IC := .reg [⟨some 119, none, false, .mv (.t 16)⟩,
  ⟨some 120, none, false, .cmp .geq (.t 119) (.k (.int .u64 4294967296))⟩] (some [2, 8, 9, 10, 14, 15, 16, 17, 18, 120])
def ir68_20 : IC := .cond (.t 120) (.exit 2) .skip
def ir68_21 : IC := .seq ir68_r27 ir68_20
def ir68_22 : IC := .seq ir68_r26 ir68_21
def ir68_23 : IC := .seq ir68_r25 ir68_22
def ir68_24 : IC := .block 3 ir68_23
def ir68_25 : IC := .seq ir68_19 ir68_24
def ir68_26 : IC := .loop ir68_25
def ir68_27 : IC := .block 2 ir68_26
def ir68_r28 : IC := .reg [⟨some 121, none, false, .mv (.t 15)⟩,
  ⟨some 122, none, false, .ar .mul (.t 121) (.k (.int .u64 4294967296))⟩,
  ⟨some 123, none, false, .mv (.t 18)⟩,
  ⟨some 124, none, false, .ar .add (.t 122) (.t 123)⟩,
  ⟨some 125, none, false, .mv (.t 17)⟩,
  ⟨some 126, none, true, .ar .mul (.t 125) (.k (.int .u64 4294967296))⟩,
  ⟨some 127, none, false, .mv (.t 14)⟩,
  ⟨some 128, none, true, .ar .add (.t 126) (.t 127)⟩,
  ⟨some 129, none, false, .mv (.t 18)⟩,
  ⟨some 130, none, false, .mv (.t 2)⟩,
  ⟨some 131, none, true, .ar .mul (.t 129) (.t 130)⟩,
  ⟨some 132, none, true, .ar .sub (.t 128) (.t 131)⟩,
  ⟨some 133, none, false, .mv (.t 8)⟩,
  ⟨some 134, none, false, .shf .shr (.t 132) (.t 133)⟩,
  ⟨some 6, none, false, .mv (.t 124)⟩,
  ⟨some 7, none, false, .mv (.t 134)⟩] (some [6, 7])
def ir68_28 : IC := .seq ir68_r28 .ret
def ir68_29 : IC := .seq ir68_27 ir68_28
def ir68_30 : IC := .seq ir68_r23 ir68_29
def ir68_31 : IC := .seq ir68_r22 ir68_30
def ir68_32 : IC := .seq ir68_r21 ir68_31
def ir68_33 : IC := .seq ir68_17 ir68_32
def ir68_34 : IC := .seq ir68_r16 ir68_33
def ir68_35 : IC := .seq ir68_r15 ir68_34
def ir68_36 : IC := .seq ir68_r14 ir68_35
def ir68_37 : IC := .seq ir68_r13 ir68_36
def ir68_38 : IC := .seq ir68_r12 ir68_37
def ir68_39 : IC := .seq ir68_r11 ir68_38
def ir68_40 : IC := .seq ir68_r10 ir68_39
def ir68_41 : IC := .seq ir68_r9 ir68_40
def ir68_42 : IC := .seq ir68_r8 ir68_41
def ir68_43 : IC := .seq ir68_r7 ir68_42
def ir68_44 : IC := .seq ir68_7 ir68_43
def ir68_45 : IC := .seq ir68_4 ir68_44
def ir68_46 : IC := .seq ir68_2 ir68_45
def ir68_47 : IC := .seq ir68_r0 ir68_46
def ir68 : IC := ir68_47
theorem fn68 : FnIs Try.prog 68 ir68 135 [.tmp 6, .tmp 7] := ⟨Try.f68, Try.f68.body.getD .skip, Try.func68, by kernel_rfl, by kernel_rfl, by kernel_rfl, by kernel_rfl⟩
theorem lz64_f (x : Int) (h0 : 0 ≤ x) (h1 : x < 4294967296) (L : Nat) (hL : L = Go.bitLen x.toNat) (hL2 : L ≤ 32) {h : AH} (hs : h.sees 0 = true) :
    Fc Try.prog 77 [.int .u64 x] h (.int .i64 (64 - (L : Int))) h := by
  refine Fc.lift0 ?_ rfl rfl hs
  subst hL
  have hm : ∀ {h : AH}, Fc Try.prog 83 [.int .u64 x] h (.int .i64 (Go.bitLen x.toNat)) h := len64_f x h0 h1
  generalize Go.bitLen x.toNat = l at *
  refine Fc.intro0 fn77 (by simp) rfl rfl ?_; simp only [argF]
  refine ITri.seq ?_
  refine ITri.reg pok ?_; simp -implicitDefEqProofs (disch := first | decide | exact of_eq_true (eq_true rfl) | omega | assumption) only [ ↓vcD, vcE, ↓vcG, vcF, evs, evP, evB, intsOf, fillC, Value.cells, pt, Value.oneCell', reduceIte, reduceCtorEq, Nat.reduceEqDiff, Nat.reduceAdd, Nat.reduceMul, Nat.reduceLT, Nat.reduceBEq, Nat.reduceLeDiff, Nat.reduceSub]
  refine ITri.seq ?_
  refine ITri.reg pok ?_; simp -implicitDefEqProofs (disch := first | decide | exact of_eq_true (eq_true rfl) | omega | assumption) only [ ↓vcD, vcE, ↓vcG, vcF, evs, evP, evB, intsOf, fillC, Value.cells, pt, Value.oneCell', reduceIte, reduceCtorEq, Nat.reduceEqDiff, Nat.reduceAdd, Nat.reduceMul, Nat.reduceLT, Nat.reduceBEq, Nat.reduceLeDiff, Nat.reduceSub]
  refine ⟨_, _, hm, ?_⟩
  try simp -implicitDefEqProofs (disch := first | decide | exact of_eq_true (eq_true rfl) | omega | assumption) only [ ↓vcD, vcE, ↓vcG, vcF, evs, evP, evB, intsOf, fillC, Value.cells, pt, Value.oneCell', reduceIte, reduceCtorEq, Nat.reduceEqDiff, Nat.reduceAdd, Nat.reduceMul, Nat.reduceLT, Nat.reduceBEq, Nat.reduceLeDiff, Nat.reduceSub]
  refine ITri.ret ?_; exact EndR.plain (by simp) (by rfl) (by rfl) (by rfl)
set_option maxHeartbeats 1000000 in
theorem div64W_f (hi lo y : Int) (hy : 1 ≤ y) (hy1 : y < 4294967296) (hh : 0 ≤ hi) (hh1 : hi < y) (hl : 0 ≤ lo) (hl1 : lo < 18446744073709551616) {h : AH} (hs : h.sees 0 = true) :
    Fc Try.prog 68 [.int .u64 hi, .int .u64 lo, .int .u64 y] h (.tuple #[.int .u64 ((hi * 18446744073709551616 + lo) / y), .int .u64 ((hi * 18446744073709551616 + lo) % y)]) h := by
  refine Fc.lift0 ?_ rfl rfl hs
  obtain ⟨L, hL, hL1, hL2, hL3, hL4⟩ := len_pack y hy hy1
  have c1 : ¬ y = 0 := by omega
  have c2 : ¬ y ≤ hi := by omega
  refine Fc.intro0 fn68 (by simp) rfl rfl ?_; simp only [argF]
  refine ITri.seq ?_
  refine ITri.reg pok ?_; simp -implicitDefEqProofs (disch := first | decide | exact of_eq_true (eq_true rfl) | omega | assumption) only [ ↓vcD, vcE, ↓vcG, vcF, evs, evP, evB, intsOf, fillC, Value.cells, pt, Value.oneCell', reduceIte, reduceCtorEq, Nat.reduceEqDiff, Nat.reduceAdd, Nat.reduceMul, Nat.reduceLT, Nat.reduceBEq, Nat.reduceLeDiff, Nat.reduceSub]
  refine ITri.seq ?_
  refine ITri.seq ?_
  refine ITri.reg pok ?_; simp -implicitDefEqProofs (disch := first | decide | exact of_eq_true (eq_true rfl) | omega | assumption) only [c1, decide_false,  ↓vcD, vcE, ↓vcG, vcF, evs, evP, evB, intsOf, fillC, Value.cells, pt, Value.oneCell', reduceIte, reduceCtorEq, Nat.reduceEqDiff, Nat.reduceAdd, Nat.reduceMul, Nat.reduceLT, Nat.reduceBEq, Nat.reduceLeDiff, Nat.reduceSub]
  refine ITri.cond (v := false) rfl (fun h => by cases h) (fun _ => ?_); refine ITri.skip ?_; simp only [SeqQ_normal, BlkQ_normal]
  refine ITri.seq ?_
  refine ITri.seq ?_
  refine ITri.reg pok ?_; simp -implicitDefEqProofs (disch := first | decide | exact of_eq_true (eq_true rfl) | omega | assumption) only [c2, decide_false,  ↓vcD, vcE, ↓vcG, vcF, evs, evP, evB, intsOf, fillC, Value.cells, pt, Value.oneCell', reduceIte, reduceCtorEq, Nat.reduceEqDiff, Nat.reduceAdd, Nat.reduceMul, Nat.reduceLT, Nat.reduceBEq, Nat.reduceLeDiff, Nat.reduceSub]
  refine ITri.cond (v := false) rfl (fun h => by cases h) (fun _ => ?_); refine ITri.skip ?_; simp only [SeqQ_normal, BlkQ_normal]
  refine ITri.seq ?_
  refine ITri.seq ?_
  by_cases hz : hi = 0
  · subst hz
    refine ITri.reg pok ?_; simp -implicitDefEqProofs (disch := first | decide | exact of_eq_true (eq_true rfl) | omega | assumption) only [decide_true,  ↓vcD, vcE, ↓vcG, vcF, evs, evP, evB, intsOf, fillC, Value.cells, pt, Value.oneCell', reduceIte, reduceCtorEq, Nat.reduceEqDiff, Nat.reduceAdd, Nat.reduceMul, Nat.reduceLT, Nat.reduceBEq, Nat.reduceLeDiff, Nat.reduceSub]
    refine ITri.cond (v := true) rfl (fun _ => ?_) (fun h => by cases h)
    have q0 : 0 ≤ lo / y := Int.ediv_nonneg hl (by omega)
    have q1 := Int.ediv_le_self y hl
    have r0 : 0 ≤ lo % y := Int.emod_nonneg lo (by omega)
    have r1 : lo % y < y := Int.emod_lt_of_pos lo (by omega)
    simp only [Int.zero_mul, Int.zero_add]
    have d1 := dvI_quo (b := y) hl
    have d2 := dvI_rem (b := y) hl
    generalize lo / y = q at *
    generalize lo % y = r at *
    refine ITri.seq ?_
    refine ITri.draw pok ?_; simp -implicitDefEqProofs (disch := first | decide | exact of_eq_true (eq_true rfl) | omega | assumption) only [d1, d2,  ↓vcD, vcE, ↓vcG, vcF, evs, evP, evB, intsOf, fillC, Value.cells, pt, Value.oneCell', reduceIte, reduceCtorEq, Nat.reduceEqDiff, Nat.reduceAdd, Nat.reduceMul, Nat.reduceLT, Nat.reduceBEq, Nat.reduceLeDiff, Nat.reduceSub]
    refine ITri.ret ?_; exact EndR.plain (by simp) (by rfl) (by rfl) (by rfl)
  refine ITri.reg pok ?_; simp -implicitDefEqProofs (disch := first | decide | exact of_eq_true (eq_true rfl) | omega | assumption) only [hz, decide_false,  ↓vcD, vcE, ↓vcG, vcF, evs, evP, evB, intsOf, fillC, Value.cells, pt, Value.oneCell', reduceIte, reduceCtorEq, Nat.reduceEqDiff, Nat.reduceAdd, Nat.reduceMul, Nat.reduceLT, Nat.reduceBEq, Nat.reduceLeDiff, Nat.reduceSub]
  refine ITri.cond (v := false) rfl (fun h => by cases h) (fun _ => ?_); refine ITri.skip ?_; simp only [SeqQ_normal, BlkQ_normal]
  refine ITri.seq ?_
  refine ITri.reg pok ?_; simp -implicitDefEqProofs (disch := first | decide | exact of_eq_true (eq_true rfl) | omega | assumption) only [ ↓vcD, vcE, ↓vcG, vcF, evs, evP, evB, intsOf, fillC, Value.cells, pt, Value.oneCell', reduceIte, reduceCtorEq, Nat.reduceEqDiff, Nat.reduceAdd, Nat.reduceMul, Nat.reduceLT, Nat.reduceBEq, Nat.reduceLeDiff, Nat.reduceSub]
  refine ⟨_, _, lz64_f y (by omega) hy1 L hL hL2 (sees0 rfl (of_decide_eq_true rfl)), ?_⟩
  try simp -implicitDefEqProofs (disch := first | decide | exact of_eq_true (eq_true rfl) | omega | assumption) only [ ↓vcD, vcE, ↓vcG, vcF, evs, evP, evB, intsOf, fillC, Value.cells, pt, Value.oneCell', reduceIte, reduceCtorEq, Nat.reduceEqDiff, Nat.reduceAdd, Nat.reduceMul, Nat.reduceLT, Nat.reduceBEq, Nat.reduceLeDiff, Nat.reduceSub]
  obtain ⟨e, u, v, T, hT, he, huv, e1, e2, u1, u2, v1, v2, F1, F2, F3, F4⟩ := div_pack hi lo y L hL2 hy hL3 hL4 hh hh1 hl hl1
  have G1 : shI .shr .u64 (e * 4294967296) 32 = e := by rw [shr32 _ (by omega)]; omega
  have G2 : btI .and .u64 (e * 4294967296) 4294967295 = 0 := by rw [and32 _ (by omega) (by omega)]; omega
  have G3 : shI .shr .u64 (v * 4294967296) 32 = v := by rw [shr32 _ (by omega)]; omega
  have G4 : btI .and .u64 (v * 4294967296) 4294967295 = 0 := by rw [and32 _ (by omega) (by omega)]; omega
  have D1 := dvI_quo (b := e) u1
  have q0 : 0 ≤ u / e := Int.ediv_nonneg u1 (by omega)
  have q1 : u / e < 4294967296 := Int.ediv_lt_of_lt_mul (by omega) (by rw [Int.mul_comm]; exact u2)
  have qe : u = e * (u / e) + u % e := (Int.mul_ediv_add_emod u e).symm
  have qr : 0 ≤ u % e := Int.emod_nonneg _ (by omega)
  have qs : u % e < e := Int.emod_lt_of_pos _ (by omega)
  generalize u / e = q at *
  generalize u % e = r at *
  refine ITri.seq ?_
  refine ITri.reg pok ?_; simp -implicitDefEqProofs (disch := first | decide | exact of_eq_true (eq_true rfl) | omega | assumption) only [F1,  ↓vcD, vcE, ↓vcG, vcF, evs, evP, evB, intsOf, fillC, Value.cells, pt, Value.oneCell', reduceIte, reduceCtorEq, Nat.reduceEqDiff, Nat.reduceAdd, Nat.reduceMul, Nat.reduceLT, Nat.reduceBEq, Nat.reduceLeDiff, Nat.reduceSub]
  refine ITri.seq ?_
  refine ITri.reg pok ?_; simp -implicitDefEqProofs (disch := first | decide | exact of_eq_true (eq_true rfl) | omega | assumption) only [G1,  ↓vcD, vcE, ↓vcG, vcF, evs, evP, evB, intsOf, fillC, Value.cells, pt, Value.oneCell', reduceIte, reduceCtorEq, Nat.reduceEqDiff, Nat.reduceAdd, Nat.reduceMul, Nat.reduceLT, Nat.reduceBEq, Nat.reduceLeDiff, Nat.reduceSub]
  refine ITri.seq ?_
  refine ITri.reg pok ?_; simp -implicitDefEqProofs (disch := first | decide | exact of_eq_true (eq_true rfl) | omega | assumption) only [G2,  ↓vcD, vcE, ↓vcG, vcF, evs, evP, evB, intsOf, fillC, Value.cells, pt, Value.oneCell', reduceIte, reduceCtorEq, Nat.reduceEqDiff, Nat.reduceAdd, Nat.reduceMul, Nat.reduceLT, Nat.reduceBEq, Nat.reduceLeDiff, Nat.reduceSub]
  refine ITri.seq ?_
  refine ITri.reg pok ?_; simp -implicitDefEqProofs (disch := first | decide | exact of_eq_true (eq_true rfl) | omega | assumption) only [F2,  ↓vcD, vcE, ↓vcG, vcF, evs, evP, evB, intsOf, fillC, Value.cells, pt, Value.oneCell', reduceIte, reduceCtorEq, Nat.reduceEqDiff, Nat.reduceAdd, Nat.reduceMul, Nat.reduceLT, Nat.reduceBEq, Nat.reduceLeDiff, Nat.reduceSub]
  refine ITri.seq ?_
  refine ITri.reg pok ?_; simp -implicitDefEqProofs (disch := first | decide | exact of_eq_true (eq_true rfl) | omega | assumption) only [F3,  ↓vcD, vcE, ↓vcG, vcF, evs, evP, evB, intsOf, fillC, Value.cells, pt, Value.oneCell', reduceIte, reduceCtorEq, Nat.reduceEqDiff, Nat.reduceAdd, Nat.reduceMul, Nat.reduceLT, Nat.reduceBEq, Nat.reduceLeDiff, Nat.reduceSub]
  refine ITri.seq ?_
  refine ITri.reg pok ?_; simp -implicitDefEqProofs (disch := first | decide | exact of_eq_true (eq_true rfl) | omega | assumption) only [G3,  ↓vcD, vcE, ↓vcG, vcF, evs, evP, evB, intsOf, fillC, Value.cells, pt, Value.oneCell', reduceIte, reduceCtorEq, Nat.reduceEqDiff, Nat.reduceAdd, Nat.reduceMul, Nat.reduceLT, Nat.reduceBEq, Nat.reduceLeDiff, Nat.reduceSub]
  refine ITri.seq ?_
  refine ITri.reg pok ?_; simp -implicitDefEqProofs (disch := first | decide | exact of_eq_true (eq_true rfl) | omega | assumption) only [G4,  ↓vcD, vcE, ↓vcG, vcF, evs, evP, evB, intsOf, fillC, Value.cells, pt, Value.oneCell', reduceIte, reduceCtorEq, Nat.reduceEqDiff, Nat.reduceAdd, Nat.reduceMul, Nat.reduceLT, Nat.reduceBEq, Nat.reduceLeDiff, Nat.reduceSub]
  refine ITri.seq ?_
  refine ITri.reg pok ?_; simp -implicitDefEqProofs (disch := first | decide | exact of_eq_true (eq_true rfl) | omega | assumption) only [D1,  ↓vcD, vcE, ↓vcG, vcF, evs, evP, evB, intsOf, fillC, Value.cells, pt, Value.oneCell', reduceIte, reduceCtorEq, Nat.reduceEqDiff, Nat.reduceAdd, Nat.reduceMul, Nat.reduceLT, Nat.reduceBEq, Nat.reduceLeDiff, Nat.reduceSub]
  refine ITri.seq ?_
  have hqe : q * e = u - r := by rw [Int.mul_comm q e]; omega
  have hur : u - (u - r) = r := by omega
  have hq0 : 0 ≤ e * q := Int.mul_nonneg (by omega) q0
  refine ITri.reg pok ?_; simp -implicitDefEqProofs (disch := first | decide | exact of_eq_true (eq_true rfl) | omega | assumption) only [hqe, hur,  ↓vcD, vcE, ↓vcG, vcF, evs, evP, evB, intsOf, fillC, Value.cells, pt, Value.oneCell', reduceIte, reduceCtorEq, Nat.reduceEqDiff, Nat.reduceAdd, Nat.reduceMul, Nat.reduceLT, Nat.reduceBEq, Nat.reduceLeDiff, Nat.reduceSub]
  have n1 : ¬ (4294967296 : Int) ≤ q := by omega
  have n2 : ¬ 4294967296 * r + v < 0 := by omega
  refine ITri.seq ?_
  refine ITri.block ?_
  refine ITri.loop (fun _ : Unit => [(2, .int .u64 (e * 4294967296)), (8, .int .u64 (64 - (L : Int))), (9, .int .u64 e), (10, .int .u64 0), (11, .int .u64 u), (13, .int .u64 v), (14, .int .u64 0), (15, .int .u64 q), (16, .int .u64 r)]) (fun _ => []) (fun _ => Hp 1 [none]) (fun _ => True) (fun _ => 0) () trivial (Wk.refl) (fun _ _ => ?_)
  refine ITri.seq ?_
  refine ITri.seq ?_
  refine ITri.reg pok ?_; simp -implicitDefEqProofs (disch := first | decide | exact of_eq_true (eq_true rfl) | omega | assumption) only [n1, n2, Int.mul_zero, decide_false,  ↓vcD, vcE, ↓vcG, vcF, evs, evP, evB, intsOf, fillC, Value.cells, pt, Value.oneCell', reduceIte, reduceCtorEq, Nat.reduceEqDiff, Nat.reduceAdd, Nat.reduceMul, Nat.reduceLT, Nat.reduceBEq, Nat.reduceLeDiff, Nat.reduceSub]
  refine ITri.cond (v := false) rfl (fun h => by cases h) (fun _ => ?_)
  refine ITri.exit ?_; simp only [SeqQ_exit, LoopQ_exit, BlkQ_hit, SeqQ_normal]
  have W1 : IntKind.u64.wrap (IntKind.u64.wrap (IntKind.u64.wrap (u * 4294967296) + v) - IntKind.u64.wrap (q * (e * 4294967296))) = r * 4294967296 + v := by
    rw [show q * (e * 4294967296) = q * e * 4294967296 by grind, hqe]
    simp only [IntKind.wrap_u64]
    omega
  refine ITri.seq ?_
  refine ITri.reg pok ?_; simp -implicitDefEqProofs (disch := first | decide | exact of_eq_true (eq_true rfl) | omega | assumption) only [W1,  ↓vcD, vcE, ↓vcG, vcF, evs, evP, evB, intsOf, fillC, Value.cells, pt, Value.oneCell', reduceIte, reduceCtorEq, Nat.reduceEqDiff, Nat.reduceAdd, Nat.reduceMul, Nat.reduceLT, Nat.reduceBEq, Nat.reduceLeDiff, Nat.reduceSub]
  have z1 : 0 ≤ r * 4294967296 + v := by omega
  have z2 : r * 4294967296 + v < e * 4294967296 := by omega
  have huv' : u * 4294967296 + v = q * 4294967296 * e + (r * 4294967296 + v) := by
    rw [show q * 4294967296 * e = q * e * 4294967296 by grind, hqe]; omega
  generalize r * 4294967296 + v = z at *
  have D2 := dvI_quo (b := e) z1
  have p0 : 0 ≤ z / e := Int.ediv_nonneg z1 (by omega)
  have p1 : z / e < 4294967296 := Int.ediv_lt_of_lt_mul (by omega) (by rw [Int.mul_comm]; exact z2)
  have pe : z = e * (z / e) + z % e := (Int.mul_ediv_add_emod z e).symm
  have pr : 0 ≤ z % e := Int.emod_nonneg _ (by omega)
  have ps : z % e < e := Int.emod_lt_of_pos _ (by omega)
  generalize z / e = p at *
  generalize z % e = t at *
  have hpe : p * e = z - t := by rw [Int.mul_comm p e]; omega
  have hzt : z - (z - t) = t := by omega
  have hp0 : 0 ≤ e * p := Int.mul_nonneg (by omega) p0
  have W2 : IntKind.u64.wrap (IntKind.u64.wrap (IntKind.u64.wrap (z * 4294967296) + 0) - IntKind.u64.wrap (p * (e * 4294967296))) = t * 4294967296 := by
    rw [show p * (e * 4294967296) = p * e * 4294967296 by grind, hpe]
    simp only [IntKind.wrap_u64]
    omega
  -- the end's numbers
  obtain ⟨X1, X2⟩ : (hi * 18446744073709551616 + lo) / y = q * 4294967296 + p ∧ t = (hi * 18446744073709551616 + lo) % y * T := by
    generalize hi * 18446744073709551616 + lo = x at *
    have h1 : x * T = (q * 4294967296 + p) * y * T + t := by
      rw [← huv, huv', he] at *
      rw [pe]
      grind
    have h2 : t = (x - (q * 4294967296 + p) * y) * T := by
      rw [Int.sub_mul]; omega
    have h3 : 0 ≤ x - (q * 4294967296 + p) * y := by
      rcases Int.lt_or_le (x - (q * 4294967296 + p) * y) 0 with h | h
      · have := Int.mul_neg_of_neg_of_pos h (show 0 < T by omega)
        omega
      · exact h
    have h4 : x - (q * 4294967296 + p) * y < y := by
      rcases Int.lt_or_le (x - (q * 4294967296 + p) * y) y with h | h
      · exact h
      · have := Int.mul_le_mul_of_nonneg_right h (show 0 ≤ T by omega)
        omega
    have h5 : x = (x - (q * 4294967296 + p) * y) + (q * 4294967296 + p) * y := by omega
    generalize x - (q * 4294967296 + p) * y = R at *
    subst h5
    constructor
    · rw [Int.add_mul_ediv_right _ _ (by omega), Int.ediv_eq_zero_of_lt h3 h4, Int.zero_add]
    · rw [Int.add_mul_emod_self_right, Int.emod_eq_of_lt h3 h4]; exact h2
  rw [X1]
  have X3 : 0 ≤ (hi * 18446744073709551616 + lo) % y := Int.emod_nonneg _ (by omega)
  generalize (hi * 18446744073709551616 + lo) % y = R at *
  have W3 : shI .shr .u64 (t * 4294967296) (64 - (L : Int)) = R := by rw [X2]; exact F4 R X3
  have m1 : ¬ (4294967296 : Int) ≤ p := by omega
  have m2 : ¬ 4294967296 * t + 0 < 0 := by omega
  have m3 : ¬ 4294967296 * t < 0 := by omega
  clear hqe hur X2 huv huv' F1 F2 F3 F4
  refine ITri.seq ?_
  refine ITri.reg pok ?_; simp -implicitDefEqProofs (disch := first | decide | exact of_eq_true (eq_true rfl) | omega | assumption) only [D2,  ↓vcD, vcE, ↓vcG, vcF, evs, evP, evB, intsOf, fillC, Value.cells, pt, Value.oneCell', reduceIte, reduceCtorEq, Nat.reduceEqDiff, Nat.reduceAdd, Nat.reduceMul, Nat.reduceLT, Nat.reduceBEq, Nat.reduceLeDiff, Nat.reduceSub]
  refine ITri.seq ?_
  refine ITri.reg pok ?_; simp -implicitDefEqProofs (disch := first | decide | exact of_eq_true (eq_true rfl) | omega | assumption) only [hpe, hzt,  ↓vcD, vcE, ↓vcG, vcF, evs, evP, evB, intsOf, fillC, Value.cells, pt, Value.oneCell', reduceIte, reduceCtorEq, Nat.reduceEqDiff, Nat.reduceAdd, Nat.reduceMul, Nat.reduceLT, Nat.reduceBEq, Nat.reduceLeDiff, Nat.reduceSub]
  refine ITri.seq ?_
  refine ITri.block ?_
  refine ITri.loop (fun _ : Unit => [(2, .int .u64 (e * 4294967296)), (8, .int .u64 (64 - (L : Int))), (9, .int .u64 e), (10, .int .u64 0), (14, .int .u64 0), (15, .int .u64 q), (16, .int .u64 t), (17, .int .u64 z), (18, .int .u64 p)]) (fun _ => []) (fun _ => Hp 1 [none]) (fun _ => True) (fun _ => 0) () trivial (Wk.refl) (fun _ _ => ?_)
  refine ITri.seq ?_
  refine ITri.seq ?_
  refine ITri.reg pok ?_; simp -implicitDefEqProofs (disch := first | decide | exact of_eq_true (eq_true rfl) | omega | assumption) only [m1, m2, m3, Int.mul_zero, Int.add_zero, decide_false,  ↓vcD, vcE, ↓vcG, vcF, evs, evP, evB, intsOf, fillC, Value.cells, pt, Value.oneCell', reduceIte, reduceCtorEq, Nat.reduceEqDiff, Nat.reduceAdd, Nat.reduceMul, Nat.reduceLT, Nat.reduceBEq, Nat.reduceLeDiff, Nat.reduceSub]
  refine ITri.cond (v := false) rfl (fun h => by cases h) (fun _ => ?_)
  refine ITri.exit ?_; simp only [SeqQ_exit, LoopQ_exit, BlkQ_hit, SeqQ_normal]
  refine ITri.seq ?_
  refine ITri.reg pok ?_; simp -implicitDefEqProofs (disch := first | decide | exact of_eq_true (eq_true rfl) | omega | assumption) only [W2, W3,  ↓vcD, vcE, ↓vcG, vcF, evs, evP, evB, intsOf, fillC, Value.cells, pt, Value.oneCell', reduceIte, reduceCtorEq, Nat.reduceEqDiff, Nat.reduceAdd, Nat.reduceMul, Nat.reduceLT, Nat.reduceBEq, Nat.reduceLeDiff, Nat.reduceSub]
  refine ITri.ret ?_; exact EndR.plain (by simp) (by rfl) (by rfl) (by rfl)
end Go.Proofs.Ytlhhkmkclmedgaa
