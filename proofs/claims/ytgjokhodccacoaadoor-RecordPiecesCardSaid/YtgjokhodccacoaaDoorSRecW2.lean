import Derived.Test.YtgjokhodccacoaaDoorSRecW1
import Derived.RecoverIn
import Derived.Lib.ByteType
set_option linter.unusedSimpArgs false
set_option linter.unusedVariables false
namespace Go.Proofs.YtgjokhodccacoaaDoor
open Go Go.RowKit Go.Vm
set_option maxRecDepth 100000
end Go.Proofs.YtgjokhodccacoaaDoor
