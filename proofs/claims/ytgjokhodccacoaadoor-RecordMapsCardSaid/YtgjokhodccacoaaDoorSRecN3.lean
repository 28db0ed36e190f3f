import Derived.Test.YtgjokhodccacoaaDoorSRecN2
import Derived.Test.YtgjokhodccacoaaDoorSRecB
set_option linter.unusedSimpArgs false
set_option linter.unusedVariables false
namespace Go.Proofs.YtgjokhodccacoaaDoor
open Go.RowKit Go.Vm
set_option maxRecDepth 100000
abbrev t3 (r : Int × Int × Int) : Value := .tuple #[.int .i64 r.1, .int .i64 r.2.1, .int .i64 r.2.2]
section
variable {n c sz k : Nat} {op : Bool} {xs : List Int} {h : AH}
end
section
variable {n c sz k : Nat} {op : Bool} {xs : List Int} {h : AH}
end
end Go.Proofs.YtgjokhodccacoaaDoor
