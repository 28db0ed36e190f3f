/-
  known() of chapter 11 is true, by the machine for closed runs.
-/
import Derived.Test.YtfmcdbcoljpomaaProg
import Derived.Test.YtfmcdbcoljpomaaMb
import Derived.KernelRfl
set_option linter.unusedSimpArgs false
set_option linter.unusedVariables false
namespace Go.Proofs.Ytfmcdbcoljpomaa
open Go.RowKit Go.Vm

set_option maxRecDepth 1000000
theorem t_names : namesOk Try.prog = true := by kernel_rfl
theorem t_mixed : Try.prog.follows .mixedOrders = true := by kernel_rfl
theorem t_known : isTrue ((aRun Try.prog noHook 1000000 50).fn 12 [] h00) = true := by kernel_rfl
/-- known() returns true, whatever the world is. -/
theorem known_any (w : World) : Calls Try.prog 12 #[] w fun e w' => e = .returned (.bool true) ∧ Below w.heap.size w w' := calls_true t_mixed t_names noHook_ok t_known w
end Go.Proofs.Ytfmcdbcoljpomaa
