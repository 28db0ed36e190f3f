import Derived.Test.YtgjokhodccacoaaDoorSRecS1
set_option linter.unusedSimpArgs false
set_option linter.unusedVariables false
namespace Go.Proofs.YtgjokhodccacoaaDoor
open Go.RowKit Go.Vm
set_option maxRecDepth 100000
end Go.Proofs.YtgjokhodccacoaaDoor
set_option linter.unusedSimpArgs false
set_option linter.unusedVariables false
namespace Go.Proofs.YtgjokhodccacoaaDoor
open Go.RowKit Go.Vm
set_option maxRecDepth 100000
section
variable {n c k sz:Nat} {op:Bool} {xs:List Int} {h:AH}
end
end Go.Proofs.YtgjokhodccacoaaDoor
