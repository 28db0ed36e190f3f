import Derived.Test.YtgjokhodccacoaaDoorProg
import Derived.Test.YtgjokhodccacoaaDoorSMo
import Derived.KernelRfl
set_option linter.unusedSimpArgs false
set_option linter.unusedVariables false
namespace Go.Proofs.YtgjokhodccacoaaDoor
open Go.RowKit Go.Vm
set_option maxRecDepth 1000000
theorem t_names:namesOk Tryd.prog = true:=by kernel_rfl
theorem t_mixed:Tryd.prog.follows .mixedOrders = true:=by kernel_rfl
theorem t_known:isTrue ((aRun Tryd.prog noHook 1000000 50).fn 19 [] h00) = true:=by kernel_rfl
theorem known_any (w:World) (ht:Tab w):Calls Tryd.prog 19 #[] w fun e w'=>e = .returned (.bool true)∧Below w.heap.size w w':=calls_true t_mixed t_names noHook_ok t_known w ht
end Go.Proofs.YtgjokhodccacoaaDoor
