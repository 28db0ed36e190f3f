import Derived.Test.YtgjokhodccacoaaDoorSRecA
set_option linter.unusedSimpArgs false
set_option linter.unusedVariables false
namespace Go.Vm
open Go Go.RowKit
section
variable {P : Program} {nt b : Nat} {rd : Option Nat} {l : Fr} {ms : List Nat} {h : AH} {Q : AEx → Fr → List Nat → AH → Prop}
end
theorem wrap_nat {n : Nat} (h : n < 9223372036854775808) : IntKind.i64.wrap (n : Int) = n := wrap_inR (by rw [inR_i64]; omega)
end Go.Vm
namespace Go.Proofs.YtgjokhodccacoaaDoor
open Go.RowKit Go.Vm
set_option maxRecDepth 100000
abbrev eB (n : Int) : List Value := [.int .u8 n]
instance flB : FlatE eB 1 := ⟨fun _ => rfl, fun _ => rfl, fun _ => rfl⟩
def isB (xs : List Int) : Prop := ∀ x ∈ xs, 0 ≤ x ∧ x ≤ 255
theorem z00 : ((0 : Nat) : Int) = 0 := rfl
def Bys (cs : List Value) (o : Nat) (xs : List Int) : Prop := ∀ i, i < xs.length → cs[o + i]? = some (.int .u8 (nth xs i))
section
variable {wl kr ks o n c at_ sz : Nat} {op : Bool} {L : List (Option AObj)} {cs : List Value} {xs : List Int}
end
inductive NR where
 | ok (n : Int) (nx : Nat)
 | err (e : Int) (nx : Nat)
section
variable {wl kr ks o n c at_ sz : Nat} {op : Bool} {L : List (Option AObj)} {cs : List Value} {xs : List Int} {most : Int}
theorem and1 {a : Int} (h0 : 0 ≤ a) (h1 : a < 9223372036854775808) : btI .and .i64 a 1 = a % 2 := by
 obtain ⟨n, rfl⟩ := Int.eq_ofNat_of_zero_le h0
 show IntKind.i64.wrap _ = _
 rw [show IntKind.i64.bits = 64 from rfl, show (1 : Int) = ((1 : Nat) : Int) from rfl, BitVec.ofInt_natCast, BitVec.ofInt_natCast, BitVec.toNat_and, BitVec.toNat_ofNat, BitVec.toNat_ofNat]
 have : n % 2 ^ 64 &&& 1 % 2 ^ 64 = n % 2 := by
  rw [Nat.mod_eq_of_lt (by omega : n < 2 ^ 64), show 1 % 2 ^ 64 = 2 ^ 1 - 1 from rfl, Nat.and_two_pow_sub_one_eq_mod]
 rw [this, wrap_nat (by omega)]
 omega
end
end Go.Proofs.YtgjokhodccacoaaDoor
