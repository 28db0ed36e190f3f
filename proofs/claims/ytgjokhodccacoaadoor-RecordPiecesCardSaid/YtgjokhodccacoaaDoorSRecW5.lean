import Derived.Test.YtgjokhodccacoaaDoorSRecW4
set_option linter.unusedSimpArgs false
set_option linter.unusedVariables false
namespace Go.Proofs.YtgjokhodccacoaaDoor
open Go.RowKit Go.Vm
set_option maxRecDepth 100000
section
variable {wl kb:Nat} {L:List (Option AObj)}
end
section
variable {wl kb:Nat} {L:List (Option AObj)}
end
end Go.Proofs.YtgjokhodccacoaaDoor
