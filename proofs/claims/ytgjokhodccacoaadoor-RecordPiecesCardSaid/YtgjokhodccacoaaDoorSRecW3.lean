import Derived.Test.YtgjokhodccacoaaDoorSRecW2
set_option linter.unusedSimpArgs false
set_option linter.unusedVariables false
namespace Go.Vm
open Go Go.RowKit
theorem set_id {α:Type} {L:List α} {k:Nat} {x:α} (h:L[k]? = some x):L.set k x = L:=by
 apply List.ext_getElem?
 intro j
 rw [List.getElem?_set]
 split
 ·rename_i e
  subst e
  rw [if_pos (List.getElem?_eq_some_iff.1 h).1,h]
 ·rfl
end Go.Vm
namespace Go.Proofs.YtgjokhodccacoaaDoor
open Go.RowKit Go.Vm
set_option maxRecDepth 100000
section
variable {wl kb:Nat} {L:List (Option AObj)}
end
end Go.Proofs.YtgjokhodccacoaaDoor
