/-
  Chapters 4 and 7 at the top: cropped() is true, by the machine for closed runs.
-/
import Derived.Test.YteddklolpcpjaaaFitKv
set_option linter.unusedSimpArgs false
set_option linter.unusedVariables false
namespace Go.Proofs.Yteddklolpcpjaaa
open Go.RowKit Go.Vm
set_option maxRecDepth 1000000 in
theorem t_cropped : isTrue ((aRun Try.prog noHook 1000000 50).fn 5 [] h00) = true := by kernel_rfl
/-- cropped() returns true, whatever the world is. -/
theorem cropped_any (w : World) : Calls Try.prog 5 #[] w fun e w' => e = .returned (.bool true) ∧ Below w.heap.size w w' := calls_true v_mixed v_names noHook_ok t_cropped w
theorem cropped_f {h : AH} : Fc Try.prog 5 [] h (.bool true) h :=
  Fc.ofPlain rfl ⟨_, _, Try.func5, rfl⟩ fun w0 φ κ w R ha => cropped_any w

end Go.Proofs.Yteddklolpcpjaaa
