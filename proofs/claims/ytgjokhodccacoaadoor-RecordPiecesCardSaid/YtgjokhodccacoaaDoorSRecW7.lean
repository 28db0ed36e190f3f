import Derived.Test.YtgjokhodccacoaaDoorSRecW6
set_option linter.unusedSimpArgs false
set_option linter.unusedVariables false
namespace Go.Proofs.YtgjokhodccacoaaDoor
open Go.RowKit Go.Vm
set_option maxRecDepth 100000
def frH (kind:Nat) (xs:List Int):List Int:=(kind:Int) :: (groups xs.length++xs)
def frB (kind:Nat) (xs:List Int):List Int:=frH kind xs++[((crc (frH kind xs) / 256:Nat):Int),((crc (frH kind xs) % 256:Nat):Int)]
section
variable {wl kb k:Nat} {L:List (Option AObj)} {bs:List Int}
end
end Go.Proofs.YtgjokhodccacoaaDoor
