import Derived.Test.YtgjokhodccacoaaDoorSRecG5
set_option linter.unusedSimpArgs false
set_option linter.unusedVariables false
namespace Go.Vm
open Go Go.RowKit
section
variable {P:Program} {w:Bool} {t el:TypeId} {f:TypeInfo} {s k n c sz:Nat} {l:Fr} {h:AH} {K:Value→AH→Prop} {op:Bool} {xs:List Int}
end
end Go.Vm
namespace Go.Proofs.YtgjokhodccacoaaDoor
open Go.RowKit Go.Vm
set_option maxRecDepth 100000
def grL (n:Nat) (acc:List Int):List Int:=if h:n = 0 then acc else grL (n / 128) ((128 + (n % 128:Nat):Int) :: acc)
termination_by n
decreasing_by omega
def groups (n:Nat):List Int:=grL (n / 128) [((n % 128:Nat):Int)]
abbrev bufE:Option AObj:=some (.cells ⟨[.slice none 0 0,.int .i64 0,.int .i8 0],1,false⟩)
abbrev bufO (s:Value):Option AObj:=some (.cells ⟨[s,.int .i64 0,.int .i8 0],1,false⟩)
section
variable {T:List (Option AObj)} {m:Nat}
end
end Go.Proofs.YtgjokhodccacoaaDoor
