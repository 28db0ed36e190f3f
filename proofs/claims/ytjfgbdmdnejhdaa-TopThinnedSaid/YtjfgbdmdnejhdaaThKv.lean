/-
  Chapter 9 at the top: sliced() is true, by the machine for closed runs.
-/
import Derived.Test.YtjfgbdmdnejhdaaFitKv
set_option linter.unusedSimpArgs false
set_option linter.unusedVariables false
namespace Go.Proofs.Ytjfgbdmdnejhdaa
open Go.RowKit Go.Vm
set_option maxRecDepth 1000000 in
theorem t_sliced : isTrue ((aRun Try.prog noHook 1000000 50).fn 4 [] h00) = true := by kernel_rfl
/-- sliced() returns true, whatever the world is. -/
theorem sliced_any (w : World) : Calls Try.prog 4 #[] w fun e w' => e = .returned (.bool true) ∧ Below w.heap.size w w' := calls_true v_mixed v_names noHook_ok t_sliced w
theorem sliced_f {h : AH} : Fc Try.prog 4 [] h (.bool true) h :=
  Fc.ofPlain rfl ⟨_, _, Try.func4, rfl⟩ fun w0 φ κ w R ha => sliced_any w

end Go.Proofs.Ytjfgbdmdnejhdaa
