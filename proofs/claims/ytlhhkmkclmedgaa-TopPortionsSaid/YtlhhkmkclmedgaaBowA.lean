/-
  Chapters 1 and 8 at the top (rows of wires): what is called at closed inputs; words of 64 bits; contracts by names.
-/
import Derived.Test.YtlhhkmkclmedgaaBowKv
import Derived.Lib.Hide
import Derived.BigQuiet
import Derived.Deep.QuietTactic
import Derived.Laws.Bits64b
import Derived.IntWalk
import Derived.Deep.RegionHeld3
import Derived.Deep.RegionLaw
set_option linter.unusedSimpArgs false
set_option linter.unusedVariables false
namespace Go.Proofs.Ytlhhkmkclmedgaa
open Go.RowKit Go.Vm

theorem mask32 (c : Int) (h0 : 0 ≤ c) (h1 : c < 18446744073709551616) : bits .and .u64 c 4294967295 = c % 4294967296 := by
  obtain ⟨n, rfl⟩ := Int.eq_ofNat_of_zero_le h0
  have h := bits_and_u64_nat n 4294967295 (by omega) (by omega)
  rw [show ((4294967295 : Nat) : Int) = 4294967295 from rfl] at h
  rw [h]
  have : n &&& 4294967295 = n % 2 ^ 32 := Nat.and_two_pow_sub_one_eq_mod n 32
  rw [this]
  omega
theorem wrapU (n : Int) (h0 : 0 ≤ n) (h1 : n < 18446744073709551616) : IntKind.u64.wrap n = n := by
  exact IntWalk.u64_in n ⟨h0, by omega⟩
theorem mul_parts (x y : Int) : x * y = 4294967296 * 4294967296 * (x / 4294967296 * (y / 4294967296)) + 4294967296 * (x / 4294967296 * (y % 4294967296)) + 4294967296 * (x % 4294967296 * (y / 4294967296)) + x % 4294967296 * (y % 4294967296) := by
  have h1 : x = 4294967296 * (x / 4294967296) + x % 4294967296 := by omega
  have h2 : y = 4294967296 * (y / 4294967296) + y % 4294967296 := by omega
  generalize x / 4294967296 = a at *
  generalize x % 4294967296 = b at *
  generalize y / 4294967296 = c at *
  generalize y % 4294967296 = d at *
  subst h1 h2
  grind
theorem mulHi (x y : Int) (hx : 0 ≤ x) (hy : 0 ≤ y) (hxy : x * y < 9223372036854775808) :
    IntKind.u64.wrap (IntKind.u64.wrap (IntKind.u64.wrap (x / 4294967296 * (y / 4294967296)) + IntKind.u64.wrap (IntKind.u64.wrap (x / 4294967296 * (y % 4294967296)) + IntKind.u64.wrap (x % 4294967296 * (y % 4294967296)) / 4294967296) / 4294967296) + IntKind.u64.wrap (bits BinOp.and IntKind.u64 (IntKind.u64.wrap (IntKind.u64.wrap (x / 4294967296 * (y % 4294967296)) + IntKind.u64.wrap (x % 4294967296 * (y % 4294967296)) / 4294967296)) 4294967295 + IntKind.u64.wrap (x % 4294967296 * (y / 4294967296))) / 4294967296) = 0 := by
  have hp := mul_parts x y
  have n1 : 0 ≤ x / 4294967296 * (y / 4294967296) := Int.mul_nonneg (by omega) (by omega)
  have n2 : 0 ≤ x / 4294967296 * (y % 4294967296) := Int.mul_nonneg (by omega) (by omega)
  have n3 : 0 ≤ x % 4294967296 * (y / 4294967296) := Int.mul_nonneg (by omega) (by omega)
  have n4 : 0 ≤ x % 4294967296 * (y % 4294967296) := Int.mul_nonneg (by omega) (by omega)
  generalize x / 4294967296 * (y / 4294967296) = p at *
  generalize x / 4294967296 * (y % 4294967296) = q at *
  generalize x % 4294967296 * (y / 4294967296) = r at *
  generalize x % 4294967296 * (y % 4294967296) = s at *
  generalize x * y = z at *
  rw [wrapU p n1 (by omega), wrapU q n2 (by omega), wrapU s n4 (by omega), wrapU r n3 (by omega), wrapU (q + s / 4294967296) (by omega) (by omega), mask32 (q + s / 4294967296) (by omega) (by omega)]
  rw [wrapU (p + (q + s / 4294967296) / 4294967296) (by omega) (by omega), wrapU ((q + s / 4294967296) % 4294967296 + r) (by omega) (by omega), wrapU _ (by omega) (by omega)]
  omega
set_option maxHeartbeats 400000 in
theorem mul64_any (x y : Int) (hx : 0 ≤ x) (hy : 0 ≤ y) (hx1 : x ≤ 1000000000000000) (hy1 : y ≤ 1000000000000000) (hxy : x * y < 9223372036854775808) (w : World) :
    Calls Try.prog 67 #[.int .u64 x, .int .u64 y] w fun e w' => e = .returned (.tuple #[.int .u64 0, .int .u64 (x * y)]) ∧ w = w' := by
  have e1 := mask32 x hx (by omega)
  have e2 := mask32 y hy (by omega)
  have H1 := Lib.hid (mulHi x y hx hy hxy)
  have H2 := Lib.hid (wrapU (x * y) (Int.mul_nonneg hx hy) (by omega))
  go_enter Try.func67, Try.ntmps67
  go_wp2
  go_ret2
  rw [H1.out, H2.out]
  exact ⟨rfl, rfl⟩
theorem below_drewN {B : Nat} {a w : World} (h : Below B a w) (n : Nat) : Below B a (w.drewN n) := ⟨h.os, h.tape, h.output, h.size, h.block⟩
set_option maxHeartbeats 400000 in
theorem div64_any (x y : Int) (hx : 0 ≤ x) (hx1 : x < 9223372036854775808) (hy : 1 ≤ y) (hy1 : y ≤ 1000000000000000) (w : World) :
    Calls Try.prog 68 #[.int .u64 0, .int .u64 x, .int .u64 y] w fun e w' => e = .returned (.tuple #[.int .u64 (x / y), .int .u64 (x % y)]) ∧ Below w.heap.size w w' := by
  have H1 := Lib.hid (wrapU (x / y) (Int.ediv_nonneg hx (by omega)) (by have := Int.ediv_le_self y hx; omega))
  have H2 := Lib.hid (wrapU (x % y) (Int.emod_nonneg x (by omega)) (by have := Int.emod_lt_of_pos x (show 0 < y by omega); omega))
  have b1 : (y == 0) = false := by simpa using (show y ≠ 0 by omega)
  have b2 : decide (y ≤ 0) = false := decide_eq_false (by omega)
  have b3 : y ≠ 0 := by omega
  go_enter Try.func68, Try.ntmps68
  go_wp2
  go_quiet (fail)
  go_wp2
  go_ret2
  exact ⟨rfl, below_drewN (Below.refl _ _) _⟩
theorem mul64_f (x y : Int) (hx : 0 ≤ x) (hy : 0 ≤ y) (hx1 : x ≤ 1000000000000000) (hy1 : y ≤ 1000000000000000) (hxy : x * y < 9223372036854775808) {h : AH} :
    Fc Try.prog 67 [.int .u64 x, .int .u64 y] h (.tuple #[.int .u64 0, .int .u64 (x * y)]) h :=
  Fc.ofPlain rfl ⟨_, _, Try.func67, rfl⟩ fun w0 φ κ w R ha => by
    simp only [List.map_cons, List.map_nil, ren_noAddr _ _ (Value.int .u64 _) rfl]
    exact (mul64_any x y hx hy hx1 hy1 hxy w).mono (by rintro _ _ ⟨rfl, rfl⟩; exact ⟨rfl, Below.refl _ _⟩)
theorem div64_f (x y : Int) (hx : 0 ≤ x) (hx1 : x < 9223372036854775808) (hy : 1 ≤ y) (hy1 : y ≤ 1000000000000000) {h : AH} :
    Fc Try.prog 68 [.int .u64 0, .int .u64 x, .int .u64 y] h (.tuple #[.int .u64 (x / y), .int .u64 (x % y)]) h :=
  Fc.ofPlain rfl ⟨_, _, Try.func68, rfl⟩ fun w0 φ κ w R ha => by
    simp only [List.map_cons, List.map_nil, ren_noAddr _ _ (Value.int .u64 _) rfl]
    exact div64_any x y hx hx1 hy hy1 w
end Go.Proofs.Ytlhhkmkclmedgaa
