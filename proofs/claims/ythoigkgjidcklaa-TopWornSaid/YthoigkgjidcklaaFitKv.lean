/-
  Chapters 8 to 10 at the top: the program's names and orders.
-/
import Derived.Test.YthoigkgjidcklaaProg
import Derived.Test.YthoigkgjidcklaaMh
import Derived.Test.YthoigkgjidcklaaMe
import Derived.KernelRfl
set_option linter.unusedSimpArgs false
set_option linter.unusedVariables false
namespace Go.Proofs.Ythoigkgjidcklaa
open Go.RowKit Go.Vm

set_option maxRecDepth 1000000 in
theorem v_names : namesOk Try.prog = true := by kernel_rfl
set_option maxRecDepth 1000000 in
theorem v_mixed : Try.prog.follows .mixedOrders = true := by kernel_rfl
theorem pok : POk Try.prog := ⟨v_mixed, v_names⟩
end Go.Proofs.Ythoigkgjidcklaa
