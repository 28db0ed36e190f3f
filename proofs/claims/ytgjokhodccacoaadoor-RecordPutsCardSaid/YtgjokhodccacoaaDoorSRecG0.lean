/-
  Chapter 6: the check, without a program in sight: four bits at a time, and bit by bit.
-/
import Derived.Test.YtgjokhodccacoaaDoorSRecN1
set_option linter.unusedSimpArgs false
set_option linter.unusedVariables false
namespace Go.Proofs.YtgjokhodccacoaaDoor
open Go.RowKit Go.Vm
def turnsN : List Nat := [0, 32773, 32783, 10, 32795, 30, 20, 32785, 32819, 54, 60, 32825, 40, 32813, 32807, 34]
def tN (i : Nat) : Nat := turnsN.getD i 0
/-- Four bits of a check, by the table. -/
def nib (c h : Nat) : Nat := (c * 16 % 65536) ^^^ tN ((c / 4096) ^^^ h)
/-- One bit of it. -/
def bitS (c b : Nat) : Nat := if c / 32768 ≠ b then (2 * c % 65536) ^^^ 32773 else 2 * c % 65536
def bc (x c : Nat) : Nat → Nat
  | 0 => c
  | j + 1 => bitS (bc x c j) (x / 2 ^ (7 - j) % 2)
/- operations on bits, as numbers -/
end Go.Proofs.YtgjokhodccacoaaDoor
