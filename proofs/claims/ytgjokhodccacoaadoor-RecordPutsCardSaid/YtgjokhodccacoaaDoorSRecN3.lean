/-
  Chapter 6: the reference's Number, Plain, Signed; RecordNumbers; by names.
-/
import Derived.Test.YtgjokhodccacoaaDoorSRecN2
import Derived.Test.YtgjokhodccacoaaDoorSRecB
set_option linter.unusedSimpArgs false
set_option linter.unusedVariables false
namespace Go.Proofs.YtgjokhodccacoaaDoor
open Go.RowKit Go.Vm
set_option maxRecDepth 100000
abbrev t3 (r : Int × Int × Int) : Value := .tuple #[.int .i64 r.1, .int .i64 r.2.1, .int .i64 r.2.2]
/- boule/bouleref06.Number · slots 67 · names 0:b 1:at 2:most 3:b 4:at 5:most 9:n 10:i · results [6, 7, 8] -/
/- boule/bouleref06.Plain · slots 13 · names 0:b 1:at 2:b 3:at · results [4, 5, 6] -/
/- boule/bouleref06.Signed · slots 30 · names 0:b 1:at 2:b 3:at 7:n 8:next 9:e · results [4, 5, 6] -/
/- boule/boulelaw06.ownBytes · slots 6 · names 0:b 1:b · results [2] -/
/- boule/boulelaw06.RecordNumbers · slots 82 · names 0:b 1:at 2:b 3:at 5:m 6:to 7:e 8:n 9:next 10:f 11:x 12:i 13:g 14:y 15:k 16:h · results [4] -/
/- the same, wherever the bytes stand -/
section
variable {n c sz k : Nat} {op : Bool} {xs : List Int} {h : AH}
end
section
variable {n c sz k : Nat} {op : Bool} {xs : List Int} {h : AH}
end
end Go.Proofs.YtgjokhodccacoaaDoor
