/-
  Chapter 6: rows of numbers, wafer maps: whether they are valid, copies, comparison; by names.
-/
import Derived.Test.YtgjokhodccacoaaDoorSRecKv
import Derived.Test.YtgjokhodccacoaaDoorSMp
import Derived.Test.YtgjokhodccacoaaDoorSMe
import Derived.KernelRfl
set_option linter.unusedSimpArgs false
set_option linter.unusedVariables false
namespace Go.Proofs.YtgjokhodccacoaaDoor
open Go.RowKit Go.Vm
set_option maxRecDepth 1000000 in
theorem pok : POk Tryd.prog := ⟨t_mixed, t_names⟩
theorem knownT {h : AH} : Fc Tryd.prog 19 [] h (.bool true) h :=
  Fc.ofPlain rfl ⟨_, _, Tryd.func19, rfl⟩ fun w0 φ κ w R ha => known_any w R.below.now

abbrev eN (n : Int) : List Value := [.int .i64 n]
instance flN : FlatE eN 1 := ⟨fun _ => rfl, fun _ => rfl, fun _ => rfl⟩
abbrev sO (k n : Nat) : Value := .slice (some ⟨k, 0, none⟩) n openB
set_option maxRecDepth 100000
/- boule/record.CheckMap$1 · slots 15 · names 0:n 1:least 2:most 3:n 4:least 5:most · results [6] -/
/- boule/record.CheckMap$2 · slots 8 · names 0:n 2:n · results [3] -/
/- slices.ContainsFunc[[]int,int] · slots 9 · names 0:s 1:f 2:s 3:f · results [4] -/
/- slices.IndexFunc[[]int,int] · slots 19 · names 0:s 1:f 2:s 3:f 5:i · results [4] -/
/- boule/record.CheckMap · slots 33 · names 0:m 1:m 3:within · results [2] -/
/- boule/bouleref06.Map · slots 54 · names 0:m 1:m 3:i · results [2] -/
/- boule/boulelaw06.ownMap · slots 12 · names 0:m 1:m · results [2] -/
/- boule/boulelaw06.sameMap · slots 45 · names 0:a 1:b 2:a 3:b 5:i · results [4] -/
end Go.Proofs.YtgjokhodccacoaaDoor
