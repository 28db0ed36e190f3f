/-
  Chapter 10 at the top: sold() is true, by the machine for closed runs.
-/
import Derived.Test.YtjfgbdmdnejhdaaDoorProg
import Derived.Test.YtjfgbdmdnejhdaaDoorMh
import Derived.Test.YtjfgbdmdnejhdaaDoorMe
import Derived.KernelRfl
set_option linter.unusedSimpArgs false
set_option linter.unusedVariables false
namespace Go.Proofs.YtjfgbdmdnejhdaaDoor
open Go.RowKit Go.Vm

set_option maxRecDepth 1000000 in
theorem v_names : namesOk Tryd.prog = true := by kernel_rfl
set_option maxRecDepth 1000000 in
theorem v_mixed : Tryd.prog.follows .mixedOrders = true := by kernel_rfl
set_option maxRecDepth 1000000 in
theorem t_sold : isTrue ((aRun Tryd.prog noHook 1000000 50).fn 4 [] h00) = true := by kernel_rfl
/-- sold() returns true, whatever the world is. -/
theorem sold_any (w : World) : Calls Tryd.prog 4 #[] w fun e w' => e = .returned (.bool true) ∧ Below w.heap.size w w' := calls_true v_mixed v_names noHook_ok t_sold w
theorem pok : POk Tryd.prog := ⟨v_mixed, v_names⟩
theorem sold_f {h : AH} : Fc Tryd.prog 4 [] h (.bool true) h :=
  Fc.ofPlain rfl ⟨_, _, Tryd.func4, rfl⟩ fun w0 φ κ w R ha => sold_any w

end Go.Proofs.YtjfgbdmdnejhdaaDoor
