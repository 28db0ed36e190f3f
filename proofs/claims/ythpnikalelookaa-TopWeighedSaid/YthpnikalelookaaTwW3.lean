/-
  TopWeighed, third walks: products, quotients by 1, Scale.
-/
import Derived.Test.YthpnikalelookaaTwW2
namespace Go.Proofs.Ythpnikalelookaa
open Go.RowKit

set_option maxHeartbeats 400000 in
theorem valid_any (A : Option Addr) (n cap B : Nat) (l : List (Int × Int)) (w : World) (h : Sl eII 2 w B A n l) (hB : B ≤ w.heap.size) (hl : n ≤ 1000000) :
    Calls Try.prog 14 #[.slice A n cap] w fun e w' => e = .returned (.bool (!l.any badR)) ∧ Below w.heap.size w w' := by
  go_enter Try.func14, Try.ntmps14
  go_wp2_with fail
  refine (containsR_any validOne_any A n cap B l w h hB hl).mono ?_
  rintro e w' ⟨rfl, hb1⟩
  go_wp2
  go_ret
  exact ⟨rfl, hb1⟩

set_option maxHeartbeats 400000 in
theorem magnitude_any (a : Int) (h0 : 0 ≤ a) (h1 : a ≤ 1000000000000000) (w : World) :
    Calls Try.prog 46 #[.int .i64 a] w fun e w' => e = .returned (.tuple #[.int .u64 a, .bool false]) ∧ w = w' := by
  go_enter Try.func46, Try.ntmps46
  go_wp2
  go_ret2
  exact ⟨rfl, rfl⟩

theorem mask32 (c : Int) (h0 : 0 ≤ c) (h1 : c < 18446744073709551616) : bits .and .u64 c 4294967295 = c % 4294967296 := by
  obtain ⟨n, rfl⟩ := Int.eq_ofNat_of_zero_le h0
  have h := bits_and_u64_nat n 4294967295 (by omega) (by omega)
  rw [show ((4294967295 : Nat) : Int) = 4294967295 from rfl] at h
  rw [h]
  have : n &&& 4294967295 = n % 2 ^ 32 := Nat.and_two_pow_sub_one_eq_mod n 32
  rw [this]
  omega

theorem wrapU (n : Int) (h0 : 0 ≤ n) (h1 : n < 18446744073709551616) : IntKind.u64.wrap n = n := by
  exact IntWalk.u64_in n ⟨h0, by omega⟩

theorem mul_parts (x y : Int) : x * y = 4294967296 * 4294967296 * (x / 4294967296 * (y / 4294967296)) + 4294967296 * (x / 4294967296 * (y % 4294967296)) + 4294967296 * (x % 4294967296 * (y / 4294967296)) + x % 4294967296 * (y % 4294967296) := by
  have h1 : x = 4294967296 * (x / 4294967296) + x % 4294967296 := by omega
  have h2 : y = 4294967296 * (y / 4294967296) + y % 4294967296 := by omega
  generalize x / 4294967296 = a at *
  generalize x % 4294967296 = b at *
  generalize y / 4294967296 = c at *
  generalize y % 4294967296 = d at *
  subst h1 h2
  grind

theorem mulHi (x y : Int) (hx : 0 ≤ x) (hy : 0 ≤ y) (hxy : x * y < 9223372036854775808) :
    IntKind.u64.wrap (IntKind.u64.wrap (IntKind.u64.wrap (x / 4294967296 * (y / 4294967296)) + IntKind.u64.wrap (IntKind.u64.wrap (x / 4294967296 * (y % 4294967296)) + IntKind.u64.wrap (x % 4294967296 * (y % 4294967296)) / 4294967296) / 4294967296) + IntKind.u64.wrap (bits BinOp.and IntKind.u64 (IntKind.u64.wrap (IntKind.u64.wrap (x / 4294967296 * (y % 4294967296)) + IntKind.u64.wrap (x % 4294967296 * (y % 4294967296)) / 4294967296)) 4294967295 + IntKind.u64.wrap (x % 4294967296 * (y / 4294967296))) / 4294967296) = 0 := by
  have hp := mul_parts x y
  have n1 : 0 ≤ x / 4294967296 * (y / 4294967296) := Int.mul_nonneg (by omega) (by omega)
  have n2 : 0 ≤ x / 4294967296 * (y % 4294967296) := Int.mul_nonneg (by omega) (by omega)
  have n3 : 0 ≤ x % 4294967296 * (y / 4294967296) := Int.mul_nonneg (by omega) (by omega)
  have n4 : 0 ≤ x % 4294967296 * (y % 4294967296) := Int.mul_nonneg (by omega) (by omega)
  generalize x / 4294967296 * (y / 4294967296) = p at *
  generalize x / 4294967296 * (y % 4294967296) = q at *
  generalize x % 4294967296 * (y / 4294967296) = r at *
  generalize x % 4294967296 * (y % 4294967296) = s at *
  generalize x * y = z at *
  rw [wrapU p n1 (by omega), wrapU q n2 (by omega), wrapU s n4 (by omega), wrapU r n3 (by omega), wrapU (q + s / 4294967296) (by omega) (by omega), mask32 (q + s / 4294967296) (by omega) (by omega)]
  rw [wrapU (p + (q + s / 4294967296) / 4294967296) (by omega) (by omega), wrapU ((q + s / 4294967296) % 4294967296 + r) (by omega) (by omega), wrapU _ (by omega) (by omega)]
  omega

set_option maxHeartbeats 400000 in
theorem mul64_any (x y : Int) (hx : 0 ≤ x) (hy : 0 ≤ y) (hx1 : x ≤ 1000000000000000) (hy1 : y ≤ 1000000000000000) (hxy : x * y < 9223372036854775808) (w : World) :
    Calls Try.prog 47 #[.int .u64 x, .int .u64 y] w fun e w' => e = .returned (.tuple #[.int .u64 0, .int .u64 (x * y)]) ∧ w = w' := by
  have e1 := mask32 x hx (by omega)
  have e2 := mask32 y hy (by omega)
  have H1 := Lib.hid (mulHi x y hx hy hxy)
  have H2 := Lib.hid (wrapU (x * y) (Int.mul_nonneg hx hy) (by omega))
  go_enter Try.func47, Try.ntmps47
  go_wp2
  go_ret2
  rw [H1.out, H2.out]
  exact ⟨rfl, rfl⟩

set_option maxHeartbeats 400000 in
theorem product_any (x y : Int) (hx : 0 ≤ x) (hy : 0 ≤ y) (hx1 : x ≤ 1000000000000000) (hy1 : y ≤ 1000000000000000) (hxy : x * y < 9223372036854775808) (w : World) :
    Calls Try.prog 36 #[.int .i64 x, .int .i64 y] w fun e w' => e = .returned (.agg #[.int .u64 0, .int .u64 (x * y), .bool false]) ∧ Below w.heap.size w w' := by
  have hz : 0 ≤ x * y := Int.mul_nonneg hx hy
  have HZ := Lib.hid hxy
  clear hxy
  generalize hzz : x * y = z at *
  have HZZ := Lib.hid hzz
  clear hzz
  go_enter Try.func36, Try.ntmps36
  go_wp2_with fail
  refine (magnitude_any x hx hx1 _).mono ?_
  rintro e w1 ⟨rfl, rfl⟩
  go_wp2_with fail
  refine (magnitude_any y hy hy1 _).mono ?_
  rintro e w1 ⟨rfl, rfl⟩
  go_wp2_with fail
  refine (mul64_any x y hx hy hx1 hy1 (by rw [HZZ.out]; exact HZ.out) _).mono ?_
  rintro e w1 ⟨rfl, rfl⟩
  rw [HZZ.out]
  go_wp2
  refine bodyPost_ret (v := .agg #[.int .u64 0, .int .u64 z, .bool false]) (by simp [results, Try.results36, go_sem]) rfl ?_
  exact ⟨rfl, (Below.refl _ _).alloc (Nat.le_refl _) _⟩

theorem below_drewN {B : Nat} {a w : World} (h : Below B a w) (n : Nat) : Below B a (w.drewN n) := ⟨h.os, h.tape, h.output, h.size, h.block⟩

set_option maxHeartbeats 400000 in
theorem div64_any (x : Int) (hx : 0 ≤ x) (hx1 : x < 9223372036854775808) (w : World) :
    Calls Try.prog 48 #[.int .u64 0, .int .u64 x, .int .u64 1] w fun e w' => e = .returned (.tuple #[.int .u64 x, .int .u64 0]) ∧ Below w.heap.size w w' := by
  go_enter Try.func48, Try.ntmps48
  go_wp2
  go_quiet (fail)
  go_wp2
  go_ret2
  exact ⟨rfl, below_drewN (Below.refl _ _) _⟩

set_option maxHeartbeats 400000 in
theorem over_any (x : Int) (hx : 0 ≤ x) (hx1 : x ≤ 1000000000000000) (w : World) :
    Calls Try.prog 37 #[.agg #[.int .u64 0, .int .u64 x, .bool false], .int .i64 1] w fun e w' => e = .returned (.tuple #[.int .i64 x, .int .i64 0, .bool true]) ∧ Below w.heap.size w w' := by
  go_enter Try.func37, Try.ntmps37
  go_wp2_with fail
  refine (div64_any x hx (by omega) _).mono ?_
  rintro e w1 ⟨rfl, hb1⟩
  have k0 := (Bk.new w #[.int .u64 0, .int .u64 x, .bool false] 82).below hb1 (by simp)
  have c2 : w1.cell? ⟨w.heap.size, 2, none⟩ = some (.bool false) := k0.cell rfl
  have hbb := ((Below.refl w.heap.size w).alloc (Nat.le_refl _) _).trans (hb1.mono (by simp))
  clear hb1 k0
  go_wp2
  go_ret3
  exact ⟨rfl, hbb⟩
end Go.Proofs.Ythpnikalelookaa
