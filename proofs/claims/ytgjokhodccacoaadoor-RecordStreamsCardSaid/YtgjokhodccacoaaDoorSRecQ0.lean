import Derived.Test.YtgjokhodccacoaaDoorSRecP1
set_option linter.unusedSimpArgs false
set_option linter.unusedVariables false
namespace Go.Vm
open Go Go.RowKit
section
variable {P:Program} {w:Bool} {t el:TypeId} {f:TypeInfo} {s k n c sz:Nat} {l:Fr} {h:AH} {K:Value→AH→Prop} {op:Bool} {xs:List Int}
end
end Go.Vm
