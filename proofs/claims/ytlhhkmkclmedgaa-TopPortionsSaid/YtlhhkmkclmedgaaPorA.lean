/-
  Chapters 1 and 8 at the top: words of 128 bits: Mul64, Len64, LeadingZeros64.
-/
import Derived.Test.YtlhhkmkclmedgaaBowC
import Derived.Laws.MathBits
set_option linter.unusedSimpArgs false
set_option linter.unusedVariables false
namespace Go.Proofs.Ytlhhkmkclmedgaa
open Go.RowKit Go.Vm
set_option maxRecDepth 100000

/- the product -/
theorem mulHiW (x y : Int) (hx : 0 ≤ x) (hx1 : x < 18446744073709551616) (hy : 0 ≤ y) (hy1 : y < 18446744073709551616) :
    IntKind.u64.wrap (IntKind.u64.wrap (IntKind.u64.wrap (x / 4294967296 * (y / 4294967296)) + IntKind.u64.wrap (IntKind.u64.wrap (x / 4294967296 * (y % 4294967296)) + IntKind.u64.wrap (x % 4294967296 * (y % 4294967296)) / 4294967296) / 4294967296) + IntKind.u64.wrap (bits BinOp.and IntKind.u64 (IntKind.u64.wrap (IntKind.u64.wrap (x / 4294967296 * (y % 4294967296)) + IntKind.u64.wrap (x % 4294967296 * (y % 4294967296)) / 4294967296)) 4294967295 + IntKind.u64.wrap (x % 4294967296 * (y / 4294967296))) / 4294967296) = x * y / 18446744073709551616 := by
  rw [mask32 (IntKind.u64.wrap _) (by rw [IntKind.wrap_u64]; omega) (by rw [IntKind.wrap_u64]; omega)]
  simp only [IntKind.wrap_u64]
  exact mul64_arith x y hx hx1 hy hy1
set_option maxHeartbeats 400000 in
theorem mul64W_any (x y : Int) (hx : 0 ≤ x) (hy : 0 ≤ y) (hx1 : x < 18446744073709551616) (hy1 : y < 18446744073709551616) (w : World) :
    Calls Try.prog 67 #[.int .u64 x, .int .u64 y] w fun e w' => e = .returned (.tuple #[.int .u64 (x * y / 18446744073709551616), .int .u64 (x * y % 18446744073709551616)]) ∧ w = w' := by
  have e1 := mask32 x hx hx1
  have e2 := mask32 y hy hy1
  have H1 := Lib.hid (mulHiW x y hx hx1 hy hy1)
  have H2 := Lib.hid (IntKind.wrap_u64 (x * y))
  go_enter Try.func67, Try.ntmps67
  go_wp2
  go_ret2
  rw [H1.out, H2.out]
  exact ⟨rfl, rfl⟩
theorem mul64W_f (x y : Int) (hx : 0 ≤ x) (hy : 0 ≤ y) (hx1 : x < 18446744073709551616) (hy1 : y < 18446744073709551616) {h : AH} :
    Fc Try.prog 67 [.int .u64 x, .int .u64 y] h (.tuple #[.int .u64 (x * y / 18446744073709551616), .int .u64 (x * y % 18446744073709551616)]) h :=
  Fc.ofPlain rfl ⟨_, _, Try.func67, rfl⟩ fun w0 φ κ w R ha => by
    simp only [List.map_cons, List.map_nil, ren_noAddr _ _ (Value.int .u64 _) rfl]
    exact (mul64W_any x y hx hy hx1 hy1 w).mono (by rintro _ _ ⟨rfl, rfl⟩; exact ⟨rfl, Below.refl _ _⟩)

/- how many bits -/
theorem len_fin (x : Int) (b : Nat) (z : Int) (hz : z.toNat = x.toNat / 2 ^ b) (hne : x.toNat / 2 ^ b ≠ 0 ∨ b = 0) (hz8 : z.toNat < 256) (hb : b ≤ 32) :
    wrap64 ((b : Int) + wrap64 (Go.bitLen z.toNat : Int)) = (Go.bitLen x.toNat : Int) := by
  have l := Go.bitLen_le8 z.toNat hz8
  have e : Go.bitLen x.toNat = b + Go.bitLen z.toNat := by
    rcases hne with hne | rfl
    · rw [hz]; exact Go.bitLen_shift _ _ hne
    · rw [hz]; simp
  rw [e]
  unfold wrap64
  omega
set_option maxHeartbeats 4000000 in
theorem len64_any (x : Int) (w : World) (h0 : 0 ≤ x) (h1 : x < 4294967296) :
    Calls Try.prog 83 #[.int .u64 x] w fun e w' => e = .returned (.int .i64 (Go.bitLen x.toNat)) ∧ w = w' := by
  have g0 : decide ((4294967296 : Int) ≤ x) = false := decide_eq_false (by omega)
  go_enter Try.func83, Try.ntmps83
  go_wp2
  all_goals (go_ret; refine ⟨congrArg Ending.returned (congrArg (Value.int IntKind.i64) ?_), rfl⟩)
  all_goals (simp only [len8tab_get])
  · exact len_fin x 24 _ (by omega) (by omega) (by omega) (by omega)
  · exact len_fin x 16 _ (by omega) (by omega) (by omega) (by omega)
  · exact len_fin x 8 _ (by omega) (by omega) (by omega) (by omega)
  · have := len_fin x 0 x (by omega) (by omega) (by omega) (by omega)
    rw [show ((0 : Nat) : Int) = 0 from rfl, Int.zero_add] at this
    exact this
theorem len64_f (x : Int) (h0 : 0 ≤ x) (h1 : x < 4294967296) {h : AH} :
    Fc Try.prog 83 [.int .u64 x] h (.int .i64 (Go.bitLen x.toNat)) h :=
  Fc.ofPlain rfl ⟨_, _, Try.func83, rfl⟩ fun w0 φ κ w R ha => by
    simp only [List.map_cons, List.map_nil, ren_noAddr _ _ (Value.int .u64 _) rfl]
    exact (len64_any x w h0 h1).mono (by rintro _ _ ⟨rfl, rfl⟩; exact ⟨rfl, Below.refl _ _⟩)
/-- How far a number of at most 32 bits is shifted: to fill 64 bits. -/
theorem len_pack (y : Int) (h0 : 1 ≤ y) (h1 : y < 4294967296) : ∃ L : Nat, L = Go.bitLen y.toNat ∧ 1 ≤ L ∧ L ≤ 32 ∧ y < 2 ^ L ∧ (2 : Int) ^ L ≤ 2 * y := by
  obtain ⟨s1, s2⟩ := Go.bitLen_spec y.toNat
  have s3 := s2 (by omega)
  have b1 : Go.bitLen y.toNat ≠ 0 := by unfold Go.bitLen; split <;> omega
  have b2 : Go.bitLen y.toNat ≤ 32 := by
    unfold Go.bitLen
    split
    · omega
    · rename_i h2
      have := (Nat.log2_lt h2).2 (show y.toNat < 2 ^ 32 by omega)
      omega
  refine ⟨_, rfl, by omega, b2, ?_, ?_⟩
  · have : ((y.toNat : Nat) : Int) < ((2 ^ Go.bitLen y.toNat : Nat) : Int) := Int.ofNat_lt.2 s1
    rw [Int.natCast_pow, show ((2 : Nat) : Int) = 2 from rfl] at this
    omega
  · have e : (2 : Nat) ^ Go.bitLen y.toNat = 2 * 2 ^ (Go.bitLen y.toNat - 1) := by
      rw [← Nat.pow_succ', show (Go.bitLen y.toNat - 1).succ = Go.bitLen y.toNat by omega]
    have : ((2 ^ Go.bitLen y.toNat : Nat) : Int) ≤ ((2 * y.toNat : Nat) : Int) := Int.ofNat_le.2 (by omega)
    rw [Int.natCast_pow, show ((2 : Nat) : Int) = 2 from rfl] at this
    omega
end Go.Proofs.Ytlhhkmkclmedgaa
