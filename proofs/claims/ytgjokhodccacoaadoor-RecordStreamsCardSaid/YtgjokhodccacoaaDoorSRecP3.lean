import Derived.Test.YtgjokhodccacoaaDoorSRecP1
set_option linter.unusedSimpArgs false
set_option linter.unusedVariables false
namespace Go.Vm
open Go Go.RowKit
end Go.Vm
namespace Go.Proofs.YtgjokhodccacoaaDoor
open Go.RowKit Go.Vm
set_option maxRecDepth 100000
end Go.Proofs.YtgjokhodccacoaaDoor
set_option linter.unusedSimpArgs false
set_option linter.unusedVariables false
namespace Go.Proofs.YtgjokhodccacoaaDoor
open Go.RowKit Go.Vm
set_option maxRecDepth 100000
theorem mvI:MvV fun s=>s:=⟨fun _ _ _=>rfl,fun _ _ _ h=>h⟩
section
variable {h:AH} (n:Int)
end
end Go.Proofs.YtgjokhodccacoaaDoor
