import Derived.Test.YtgjokhodccacoaaDoorSRecW3
set_option linter.unusedSimpArgs false
set_option linter.unusedVariables false
namespace Go.Proofs.YtgjokhodccacoaaDoor
open Go.RowKit Go.Vm
set_option maxRecDepth 100000
abbrev opR (xs:List Int):Option AObj:=some (.cells ⟨rows eB xs,1,true⟩)
section
variable {wl kb:Nat} {L:List (Option AObj)}
end
end Go.Proofs.YtgjokhodccacoaaDoor
