import Derived.Test.YtgjokhodccacoaaDoorSRecW6
import Derived.Test.YtgjokhodccacoaaDoorSRecP3
set_option linter.unusedSimpArgs false
set_option linter.unusedVariables false
namespace Go.Proofs.YtgjokhodccacoaaDoor
open Go.RowKit Go.Vm
set_option maxRecDepth 100000
def frH (kind:Nat) (xs:List Int):List Int:=(kind:Int) :: (groups xs.length++xs)
def frB (kind:Nat) (xs:List Int):List Int:=frH kind xs++[((crc (frH kind xs) / 256:Nat):Int),((crc (frH kind xs) % 256:Nat):Int)]
section
variable {wl kb k:Nat} {L:List (Option AObj)} {bs:List Int}
end
end Go.Proofs.YtgjokhodccacoaaDoor
set_option linter.unusedSimpArgs false
set_option linter.unusedVariables false
namespace Go.Proofs.YtgjokhodccacoaaDoor
open Go.RowKit Go.Vm
set_option maxRecDepth 100000
def putE (kind:Int) (n:Nat):Int:=if kind < 1∨250 < kind then 3 else if 10000 < n then 5 else 0
end Go.Proofs.YtgjokhodccacoaaDoor
