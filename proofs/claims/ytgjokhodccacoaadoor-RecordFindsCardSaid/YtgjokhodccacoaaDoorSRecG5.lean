import Derived.Test.YtgjokhodccacoaaDoorSRecG3
set_option linter.unusedSimpArgs false
set_option linter.unusedVariables false
namespace Go.Vm
open Go Go.RowKit
section
variable {P:Program} {w:Bool} {t el:TypeId} {f:TypeInfo} {s d e k n a c:Nat} {l:Fr} {h:AH} {K:Value→AH→Prop}
end
end Go.Vm
namespace Go.Proofs.YtgjokhodccacoaaDoor
open Go.RowKit Go.Vm
set_option maxRecDepth 100000
end Go.Proofs.YtgjokhodccacoaaDoor
set_option linter.unusedSimpArgs false
set_option linter.unusedVariables false
namespace Go.Vm
open Go Go.RowKit
section
variable {P:Program} {w:Bool} {t el:TypeId} {f:TypeInfo} {s k n c sz:Nat} {l:Fr} {h:AH} {K:Value→AH→Prop} {op:Bool} {xs:List Int}
end
end Go.Vm
namespace Go.Proofs.YtgjokhodccacoaaDoor
open Go.RowKit Go.Vm
set_option maxRecDepth 100000
end Go.Proofs.YtgjokhodccacoaaDoor
