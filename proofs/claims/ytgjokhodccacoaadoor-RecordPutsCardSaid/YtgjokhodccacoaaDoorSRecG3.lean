/-
  Chapter 6: bytes.Clone, record.Get, by names.
-/
import Derived.Test.YtgjokhodccacoaaDoorSRecG2
import Derived.Test.YtgjokhodccacoaaDoorSRecN3
set_option linter.unusedSimpArgs false
set_option linter.unusedVariables false
namespace Go.Vm
open Go Go.RowKit
section
variable {P : Program} {f k n b sz : Nat} {args cs : List Value} {L : List (Option AObj)} {mk : Value → Value} {op : Bool} {h : AH}
end
end Go.Vm
namespace Go.Proofs.YtgjokhodccacoaaDoor
open Go.RowKit Go.Vm
set_option maxRecDepth 100000
/- bytes.Clone · slots 8 · names 0:b 1:b · results [2] -/
section
variable {wl ks a m n sz : Nat} {op : Bool} {L : List (Option AObj)} {cs : List Value} {xs : List Int}
end
/- boule/record.Get$1 -/
/- boule/record.Get · slots 27 · names 0:b 1:at 2:b 3:at 4:f 5:next 6:e 7:r 8:kind 9:payload · results [4, 5, 6] -/
section
variable {src : Option AObj} {T : List (Option AObj)}
end
end Go.Proofs.YtgjokhodccacoaaDoor
