/-
  Chapter 6: the reference's Turn, by names.
-/
import Derived.Test.YtgjokhodccacoaaDoorSRecC2
set_option linter.unusedSimpArgs false
set_option linter.unusedVariables false
namespace Go.Proofs.YtgjokhodccacoaaDoor
open Go.RowKit Go.Vm
set_option maxRecDepth 100000
/- boule/bouleref06.Turn · slots 61 · names 0:m 1:quarters 2:m 3:quarters 6:q 7:next 8:x 9:y · results [4, 5] -/
abbrev resB : Option AObj := some (.cells ⟨[.int .i64 0, .int .i64 0, .slice none 0 0], 1, false⟩)
abbrev boxM (W H : Int) (s : Value) : Option AObj := some (.cells ⟨[.int .i64 W, .int .i64 H, s], 1, false⟩)
abbrev rowB (zs : List Int) : Option AObj := some (.cells ⟨rows eN zs, 1, true⟩)
def kz (n c j : Nat) : Value := if j = 0 then s1 n c else sO 4 n
end Go.Proofs.YtgjokhodccacoaaDoor
