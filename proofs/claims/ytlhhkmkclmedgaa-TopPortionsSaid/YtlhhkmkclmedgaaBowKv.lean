/-
  Chapter 8 at the top: sliced() is true, by the machine for closed runs.
-/
import Derived.Test.YtlhhkmkclmedgaaProg
import Derived.Test.YtlhhkmkclmedgaaMh
import Derived.Test.YtlhhkmkclmedgaaMe
import Derived.KernelRfl
set_option linter.unusedSimpArgs false
set_option linter.unusedVariables false
namespace Go.Proofs.Ytlhhkmkclmedgaa
open Go.RowKit Go.Vm

set_option maxRecDepth 1000000 in
theorem v_names : namesOk Try.prog = true := by kernel_rfl
set_option maxRecDepth 1000000 in
theorem v_mixed : Try.prog.follows .mixedOrders = true := by kernel_rfl
set_option maxRecDepth 1000000 in
theorem t_sliced : isTrue ((aRun Try.prog noHook 1000000 50).fn 6 [] h00) = true := by kernel_rfl
/-- sliced() returns true, whatever the world is. -/
theorem sliced_any (w : World) : Calls Try.prog 6 #[] w fun e w' => e = .returned (.bool true) ∧ Below w.heap.size w w' := calls_true v_mixed v_names noHook_ok t_sliced w
theorem pok : POk Try.prog := ⟨v_mixed, v_names⟩
theorem sliced_f {h : AH} : Fc Try.prog 6 [] h (.bool true) h :=
  Fc.ofPlain rfl ⟨_, _, Try.func6, rfl⟩ fun w0 φ κ w R ha => sliced_any w

end Go.Proofs.Ytlhhkmkclmedgaa
