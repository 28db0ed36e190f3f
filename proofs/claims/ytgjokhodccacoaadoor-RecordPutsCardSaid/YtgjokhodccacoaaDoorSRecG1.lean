/-
  Chapter 6: record.Check and the reference's Check, by names.
-/
import Derived.Test.YtgjokhodccacoaaDoorSRecG0
import Derived.Test.YtgjokhodccacoaaDoorSRecN2
set_option linter.unusedSimpArgs false
set_option linter.unusedVariables false
namespace Go.Proofs.YtgjokhodccacoaaDoor
open Go.RowKit Go.Vm
set_option maxRecDepth 100000
theorem i_u8 : Tryd.prog.info? 5 = some ((Tryd.prog.info? 5).get rfl) := by kernel_rfl
/- boule/record.Check · slots 36 · names 0:b 1:b 3:c 4:_ 5:x 6:_ 7:half · results [2] -/
/- boule/bouleref06.Check · slots 38 · names 0:b 1:b 3:c 4:i 5:k 6:bit 7:top · results [2] -/
/-- The check behind so many halves of a byte. -/
def hf (c : Nat) (x : Nat) : Nat → Nat
  | 0 => c
  | 1 => nib c (x / 16)
  | _ => nib (nib c (x / 16)) (x % 16)
end Go.Proofs.YtgjokhodccacoaaDoor
