import Derived.Test.YtgjokhodccacoaaDoorSRecW7
import Derived.Test.YtgjokhodccacoaaDoorSRecP3
set_option linter.unusedSimpArgs false
set_option linter.unusedVariables false
namespace Go.Proofs.YtgjokhodccacoaaDoor
open Go.RowKit Go.Vm
set_option maxRecDepth 100000
def putE (kind:Int) (n:Nat):Int:=if kind < 1∨250 < kind then 3 else if 10000 < n then 5 else 0
end Go.Proofs.YtgjokhodccacoaaDoor
