/-
  No cell of these rows narrows 'for every input' (looked for: loops, veiled, ifaces, maps, wideKeys, modest, calm, conditions, laid).
  DERIVED. THE GIVEN ROWS OF THIS SEAT. 9 by the template 'for every input the law returns true; each argument reads behind the call as it read before'; 0 by the template 'total and deterministic' (their statements: YtlkfcbdbieenhaaTotals.lean).
  GIVEN WITH THE SEED: the statements are not yours to turn. If you find one false, say at which input.
  Laid BY PROGRAM, IN A SANDBOX (cutbox-rows.mjs): the forced cells as the released guide's own fill.sh prints them over the translation 5209e9a6fb599181… (all of the seat's roots in one cut). By AI agents, Wed Nov 11 2026. No macro, syntax, notation, axiom, sorry.
-/
import Derived.Test.YtlkfcbdbieenhaaChecked
import GoSem.Claim
import GoSem.ClaimJoined
import GoSem.ClaimMapViews
import Derived.JoinedTies
import Derived.KernelRfl
namespace Go.Proofs.Ytlkfcbdbieenhaa
/- THE CELL 'sum', in the pinned program and in every row, IS THE sha256 OF THE DUMP (.gsa) THAT YtlkfcbdbieenhaaProg.lean LOADS. Nothing in Lean hashes anything: it is a label: what it is worth is what the hold of that sum in a sandbox is worth. -/
noncomputable def Try.pinned : Pinned := { name := "ytlkfcbdbieenhaa", sum := "5209e9a6fb5991819f96065291cea777ce5af5fac63fbe356a134531bd5ef667", checked := Try.checked }
namespace Rows
def none {H : Type} : Left H := { results := [], args := [] }

/-- 'boulelaw07.CropBest': WHATEVER THE INPUT: true; the input reads as it did. -/
def cropBestSpec : ChangeSpec := { name := "cropBest", fn := fun _ => fun
  | [d1, d2] => { results := [.lit (.bool true)], args := [d1, d2] }
  | _ => none }
def cropBestRow : OpenClaim := { program := "ytlkfcbdbieenhaa", sum := "5209e9a6fb5991819f96065291cea777ce5af5fac63fbe356a134531bd5ef667", func := "boule/boulelaw07.CropBest", spec := "cropBest", unfollowed := true, recurses := true, apart := false }
def CropBestSaid : Prop := cropBestRow.holds Try.pinned (OpenSpec.ofChange cropBestSpec)

/-- ITS FALSE NEIGHBOUR: 'it returns false'. Refute it at one input. -/
def cropBestWrong : ChangeSpec := { name := "cropBest", fn := fun _ => fun
  | [d1, d2] => { results := [.lit (.bool false)], args := [d1, d2] }
  | _ => none }
def CropBestWrongFalsely : Prop := cropBestRow.holds Try.pinned (OpenSpec.ofChange cropBestWrong)

/-- 'boulelaw07.CropAccounts': WHATEVER THE INPUT: true; the input reads as it did. -/
def cropAccountsSpec : ChangeSpec := { name := "cropAccounts", fn := fun _ => fun
  | [d1, d2, d3] => { results := [.lit (.bool true)], args := [d1, d2, d3] }
  | _ => none }
def cropAccountsRow : OpenClaim := { program := "ytlkfcbdbieenhaa", sum := "5209e9a6fb5991819f96065291cea777ce5af5fac63fbe356a134531bd5ef667", func := "boule/boulelaw07.CropAccounts", spec := "cropAccounts", unfollowed := true, recurses := true, apart := false }
def CropAccountsSaid : Prop := cropAccountsRow.holds Try.pinned (OpenSpec.ofChange cropAccountsSpec)

/-- ITS FALSE NEIGHBOUR: 'it returns false'. Refute it at one input. -/
def cropAccountsWrong : ChangeSpec := { name := "cropAccounts", fn := fun _ => fun
  | [d1, d2, d3] => { results := [.lit (.bool false)], args := [d1, d2, d3] }
  | _ => none }
def CropAccountsWrongFalsely : Prop := cropAccountsRow.holds Try.pinned (OpenSpec.ofChange cropAccountsWrong)

/-- 'boulelaw07.CropBetter': WHATEVER THE INPUT: true; the input reads as it did. -/
def cropBetterSpec : ChangeSpec := { name := "cropBetter", fn := fun _ => fun
  | [d1, d2, d3] => { results := [.lit (.bool true)], args := [d1, d2, d3] }
  | _ => none }
def cropBetterRow : OpenClaim := { program := "ytlkfcbdbieenhaa", sum := "5209e9a6fb5991819f96065291cea777ce5af5fac63fbe356a134531bd5ef667", func := "boule/boulelaw07.CropBetter", spec := "cropBetter", unfollowed := true, recurses := true, apart := false }
def CropBetterSaid : Prop := cropBetterRow.holds Try.pinned (OpenSpec.ofChange cropBetterSpec)

/-- ITS FALSE NEIGHBOUR: 'it returns false'. Refute it at one input. -/
def cropBetterWrong : ChangeSpec := { name := "cropBetter", fn := fun _ => fun
  | [d1, d2, d3] => { results := [.lit (.bool false)], args := [d1, d2, d3] }
  | _ => none }
def CropBetterWrongFalsely : Prop := cropBetterRow.holds Try.pinned (OpenSpec.ofChange cropBetterWrong)

/-- 'boulelaw07.CropValues': WHATEVER THE INPUT: true; the input reads as it did. -/
def cropValuesSpec : ChangeSpec := { name := "cropValues", fn := fun _ => fun
  | [d1, d2, d3] => { results := [.lit (.bool true)], args := [d1, d2, d3] }
  | _ => none }
def cropValuesRow : OpenClaim := { program := "ytlkfcbdbieenhaa", sum := "5209e9a6fb5991819f96065291cea777ce5af5fac63fbe356a134531bd5ef667", func := "boule/boulelaw07.CropValues", spec := "cropValues", unfollowed := true, recurses := true, apart := false }
def CropValuesSaid : Prop := cropValuesRow.holds Try.pinned (OpenSpec.ofChange cropValuesSpec)

/-- ITS FALSE NEIGHBOUR: 'it returns false'. Refute it at one input. -/
def cropValuesWrong : ChangeSpec := { name := "cropValues", fn := fun _ => fun
  | [d1, d2, d3] => { results := [.lit (.bool false)], args := [d1, d2, d3] }
  | _ => none }
def CropValuesWrongFalsely : Prop := cropValuesRow.holds Try.pinned (OpenSpec.ofChange cropValuesWrong)

/-- 'boulelaw07.CropGrinds': WHATEVER THE INPUT: true; the input reads as it did. -/
def cropGrindsSpec : ChangeSpec := { name := "cropGrinds", fn := fun _ => fun
  | [d1, d2, d3] => { results := [.lit (.bool true)], args := [d1, d2, d3] }
  | _ => none }
def cropGrindsRow : OpenClaim := { program := "ytlkfcbdbieenhaa", sum := "5209e9a6fb5991819f96065291cea777ce5af5fac63fbe356a134531bd5ef667", func := "boule/boulelaw07.CropGrinds", spec := "cropGrinds", unfollowed := true, recurses := true, apart := false }
def CropGrindsSaid : Prop := cropGrindsRow.holds Try.pinned (OpenSpec.ofChange cropGrindsSpec)

/-- ITS FALSE NEIGHBOUR: 'it returns false'. Refute it at one input. -/
def cropGrindsWrong : ChangeSpec := { name := "cropGrinds", fn := fun _ => fun
  | [d1, d2, d3] => { results := [.lit (.bool false)], args := [d1, d2, d3] }
  | _ => none }
def CropGrindsWrongFalsely : Prop := cropGrindsRow.holds Try.pinned (OpenSpec.ofChange cropGrindsWrong)

/-- 'boulelaw07.CropProves': WHATEVER THE INPUT: true; the input reads as it did. -/
def cropProvesSpec : ChangeSpec := { name := "cropProves", fn := fun _ => fun
  | [d1, d2, d3] => { results := [.lit (.bool true)], args := [d1, d2, d3] }
  | _ => none }
def cropProvesRow : OpenClaim := { program := "ytlkfcbdbieenhaa", sum := "5209e9a6fb5991819f96065291cea777ce5af5fac63fbe356a134531bd5ef667", func := "boule/boulelaw07.CropProves", spec := "cropProves", unfollowed := true, recurses := true, apart := false }
def CropProvesSaid : Prop := cropProvesRow.holds Try.pinned (OpenSpec.ofChange cropProvesSpec)

/-- ITS FALSE NEIGHBOUR: 'it returns false'. Refute it at one input. -/
def cropProvesWrong : ChangeSpec := { name := "cropProves", fn := fun _ => fun
  | [d1, d2, d3] => { results := [.lit (.bool false)], args := [d1, d2, d3] }
  | _ => none }
def CropProvesWrongFalsely : Prop := cropProvesRow.holds Try.pinned (OpenSpec.ofChange cropProvesWrong)

/-- 'boulelaw07.CropUpper': WHATEVER THE INPUT: true; the input reads as it did. -/
def cropUpperSpec : ChangeSpec := { name := "cropUpper", fn := fun _ => fun
  | [d1, d2, d3] => { results := [.lit (.bool true)], args := [d1, d2, d3] }
  | _ => none }
def cropUpperRow : OpenClaim := { program := "ytlkfcbdbieenhaa", sum := "5209e9a6fb5991819f96065291cea777ce5af5fac63fbe356a134531bd5ef667", func := "boule/boulelaw07.CropUpper", spec := "cropUpper", unfollowed := true, recurses := true, apart := false }
def CropUpperSaid : Prop := cropUpperRow.holds Try.pinned (OpenSpec.ofChange cropUpperSpec)

/-- ITS FALSE NEIGHBOUR: 'it returns false'. Refute it at one input. -/
def cropUpperWrong : ChangeSpec := { name := "cropUpper", fn := fun _ => fun
  | [d1, d2, d3] => { results := [.lit (.bool false)], args := [d1, d2, d3] }
  | _ => none }
def CropUpperWrongFalsely : Prop := cropUpperRow.holds Try.pinned (OpenSpec.ofChange cropUpperWrong)

/-- 'boulelaw07.CropTurns': WHATEVER THE INPUT: true; the input reads as it did. -/
def cropTurnsSpec : ChangeSpec := { name := "cropTurns", fn := fun _ => fun
  | [d1, d2] => { results := [.lit (.bool true)], args := [d1, d2] }
  | _ => none }
def cropTurnsRow : OpenClaim := { program := "ytlkfcbdbieenhaa", sum := "5209e9a6fb5991819f96065291cea777ce5af5fac63fbe356a134531bd5ef667", func := "boule/boulelaw07.CropTurns", spec := "cropTurns", unfollowed := true, recurses := true, apart := false }
def CropTurnsSaid : Prop := cropTurnsRow.holds Try.pinned (OpenSpec.ofChange cropTurnsSpec)

/-- ITS FALSE NEIGHBOUR: 'it returns false'. Refute it at one input. -/
def cropTurnsWrong : ChangeSpec := { name := "cropTurns", fn := fun _ => fun
  | [d1, d2] => { results := [.lit (.bool false)], args := [d1, d2] }
  | _ => none }
def CropTurnsWrongFalsely : Prop := cropTurnsRow.holds Try.pinned (OpenSpec.ofChange cropTurnsWrong)

/-- 'boulelaw07.CropSuits': WHATEVER THE INPUT: true; the input reads as it did. -/
def cropSuitsSpec : ChangeSpec := { name := "cropSuits", fn := fun _ => fun
  | [d1, d2] => { results := [.lit (.bool true)], args := [d1, d2] }
  | _ => none }
def cropSuitsRow : OpenClaim := { program := "ytlkfcbdbieenhaa", sum := "5209e9a6fb5991819f96065291cea777ce5af5fac63fbe356a134531bd5ef667", func := "boule/boulelaw07.CropSuits", spec := "cropSuits", unfollowed := true, recurses := true, apart := false }
def CropSuitsSaid : Prop := cropSuitsRow.holds Try.pinned (OpenSpec.ofChange cropSuitsSpec)

/-- ITS FALSE NEIGHBOUR: 'it returns false'. Refute it at one input. -/
def cropSuitsWrong : ChangeSpec := { name := "cropSuits", fn := fun _ => fun
  | [d1, d2] => { results := [.lit (.bool false)], args := [d1, d2] }
  | _ => none }
def CropSuitsWrongFalsely : Prop := cropSuitsRow.holds Try.pinned (OpenSpec.ofChange cropSuitsWrong)

/- THE SECOND FORM. 'bulk': how many values and letters a reading holds, each counted each time it is reached (what is shared counts as often as it is met; a slice's spare places count too). A statement '..UptoSaid' is the law's where the arguments, and the package variables that the reading takes, are together of bulk at most 1048576: NARROWER than '..Said'. Prove '..Said' where nothing that the law and all that it calls make is longer than what came in: it says more and counts as full. Else prove '..UptoSaid'. A law counts once. -/
mutual
def uptoBulk {H : Type} : DataW H → Nat
  | .lit (.string bytes) => bytes.length + 1
  | .lit _ => 1
  | .nil => 1
  | .ptr d => uptoBulk d + 1
  | .slice elems spare => uptoBulkAll elems + uptoBulkAll spare + 1
  | .agg parts => uptoBulkAll parts + 1
  | .iface _ d => uptoBulk d + 1
  | .map entries => uptoBulkEntries entries + 1
  | .held _ => 1
def uptoBulkAll {H : Type} : List (DataW H) → Nat
  | [] => 0
  | d :: r => uptoBulk d + uptoBulkAll r
def uptoBulkEntries {H : Type} : List (Lit × DataW H) → Nat
  | [] => 0
  | x :: r => uptoBulkEntry x + uptoBulkEntries r
def uptoBulkEntry {H : Type} : Lit × DataW H → Nat
  | (.string bytes, d) => bytes.length + uptoBulk d + 1
  | (_, d) => uptoBulk d + 1
 end
def uptoSmall : (H : Type) → List (DataW H) → Bool := fun _ ds => decide (uptoBulkAll ds ≤ 1048576)
def OpenSpec.upto (s : _root_.Go.ChangeSpec) : _root_.Go.OpenSpec := { _root_.Go.OpenSpec.ofChange s with cond := some uptoSmall }

/-- 'boulelaw07.CropBest', WHERE WHAT IT READS IS OF BULK AT MOST 1048576: true; the input reads as it did. -/
def cropBestUptoRow : OpenClaim := { program := "ytlkfcbdbieenhaa", sum := "5209e9a6fb5991819f96065291cea777ce5af5fac63fbe356a134531bd5ef667", func := "boule/boulelaw07.CropBest", spec := "cropBest", unfollowed := true, recurses := true, apart := false, narrowed := true }
def CropBestUptoSaid : Prop := cropBestUptoRow.holds Try.pinned (OpenSpec.upto cropBestSpec)

/-- 'boulelaw07.CropAccounts', WHERE WHAT IT READS IS OF BULK AT MOST 1048576: true; the input reads as it did. -/
def cropAccountsUptoRow : OpenClaim := { program := "ytlkfcbdbieenhaa", sum := "5209e9a6fb5991819f96065291cea777ce5af5fac63fbe356a134531bd5ef667", func := "boule/boulelaw07.CropAccounts", spec := "cropAccounts", unfollowed := true, recurses := true, apart := false, narrowed := true }
def CropAccountsUptoSaid : Prop := cropAccountsUptoRow.holds Try.pinned (OpenSpec.upto cropAccountsSpec)

/-- 'boulelaw07.CropBetter', WHERE WHAT IT READS IS OF BULK AT MOST 1048576: true; the input reads as it did. -/
def cropBetterUptoRow : OpenClaim := { program := "ytlkfcbdbieenhaa", sum := "5209e9a6fb5991819f96065291cea777ce5af5fac63fbe356a134531bd5ef667", func := "boule/boulelaw07.CropBetter", spec := "cropBetter", unfollowed := true, recurses := true, apart := false, narrowed := true }
def CropBetterUptoSaid : Prop := cropBetterUptoRow.holds Try.pinned (OpenSpec.upto cropBetterSpec)

/-- 'boulelaw07.CropValues', WHERE WHAT IT READS IS OF BULK AT MOST 1048576: true; the input reads as it did. -/
def cropValuesUptoRow : OpenClaim := { program := "ytlkfcbdbieenhaa", sum := "5209e9a6fb5991819f96065291cea777ce5af5fac63fbe356a134531bd5ef667", func := "boule/boulelaw07.CropValues", spec := "cropValues", unfollowed := true, recurses := true, apart := false, narrowed := true }
def CropValuesUptoSaid : Prop := cropValuesUptoRow.holds Try.pinned (OpenSpec.upto cropValuesSpec)

/-- 'boulelaw07.CropGrinds', WHERE WHAT IT READS IS OF BULK AT MOST 1048576: true; the input reads as it did. -/
def cropGrindsUptoRow : OpenClaim := { program := "ytlkfcbdbieenhaa", sum := "5209e9a6fb5991819f96065291cea777ce5af5fac63fbe356a134531bd5ef667", func := "boule/boulelaw07.CropGrinds", spec := "cropGrinds", unfollowed := true, recurses := true, apart := false, narrowed := true }
def CropGrindsUptoSaid : Prop := cropGrindsUptoRow.holds Try.pinned (OpenSpec.upto cropGrindsSpec)

/-- 'boulelaw07.CropProves', WHERE WHAT IT READS IS OF BULK AT MOST 1048576: true; the input reads as it did. -/
def cropProvesUptoRow : OpenClaim := { program := "ytlkfcbdbieenhaa", sum := "5209e9a6fb5991819f96065291cea777ce5af5fac63fbe356a134531bd5ef667", func := "boule/boulelaw07.CropProves", spec := "cropProves", unfollowed := true, recurses := true, apart := false, narrowed := true }
def CropProvesUptoSaid : Prop := cropProvesUptoRow.holds Try.pinned (OpenSpec.upto cropProvesSpec)

/-- 'boulelaw07.CropUpper', WHERE WHAT IT READS IS OF BULK AT MOST 1048576: true; the input reads as it did. -/
def cropUpperUptoRow : OpenClaim := { program := "ytlkfcbdbieenhaa", sum := "5209e9a6fb5991819f96065291cea777ce5af5fac63fbe356a134531bd5ef667", func := "boule/boulelaw07.CropUpper", spec := "cropUpper", unfollowed := true, recurses := true, apart := false, narrowed := true }
def CropUpperUptoSaid : Prop := cropUpperUptoRow.holds Try.pinned (OpenSpec.upto cropUpperSpec)

/-- 'boulelaw07.CropTurns', WHERE WHAT IT READS IS OF BULK AT MOST 1048576: true; the input reads as it did. -/
def cropTurnsUptoRow : OpenClaim := { program := "ytlkfcbdbieenhaa", sum := "5209e9a6fb5991819f96065291cea777ce5af5fac63fbe356a134531bd5ef667", func := "boule/boulelaw07.CropTurns", spec := "cropTurns", unfollowed := true, recurses := true, apart := false, narrowed := true }
def CropTurnsUptoSaid : Prop := cropTurnsUptoRow.holds Try.pinned (OpenSpec.upto cropTurnsSpec)

/-- 'boulelaw07.CropSuits', WHERE WHAT IT READS IS OF BULK AT MOST 1048576: true; the input reads as it did. -/
def cropSuitsUptoRow : OpenClaim := { program := "ytlkfcbdbieenhaa", sum := "5209e9a6fb5991819f96065291cea777ce5af5fac63fbe356a134531bd5ef667", func := "boule/boulelaw07.CropSuits", spec := "cropSuits", unfollowed := true, recurses := true, apart := false, narrowed := true }
def CropSuitsUptoSaid : Prop := cropSuitsUptoRow.holds Try.pinned (OpenSpec.upto cropSuitsSpec)

end Rows
end Go.Proofs.Ytlkfcbdbieenhaa
