/-
  Chapter 7, turns, by names: tilts, how far a block is off.
-/
import Derived.Test.YtlkfcbdbieenhaaCropKv
import Derived.Test.YtlkfcbdbieenhaaMh
import Derived.Test.YtlkfcbdbieenhaaMe
import Derived.KernelRfl
set_option linter.unusedSimpArgs false
set_option linter.unusedVariables false
namespace Go.Proofs.Ytlkfcbdbieenhaa
open Go.RowKit Go.Vm
set_option maxRecDepth 1000000 in
theorem pokT : POk Try.prog := ⟨t_mixed, t_names⟩
theorem knownT {h : AH} : Fc Try.prog 14 [] h (.bool true) h :=
  Fc.ofPlain rfl ⟨_, _, Try.func14, rfl⟩ fun w0 φ κ w R ha => known_any w
end Go.Proofs.Ytlkfcbdbieenhaa
