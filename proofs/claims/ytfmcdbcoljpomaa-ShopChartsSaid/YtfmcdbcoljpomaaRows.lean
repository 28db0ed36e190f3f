/-
  No cell of these rows narrows 'for every input' (looked for: loops, veiled, ifaces, maps, wideKeys, modest, calm, conditions, laid).
  DERIVED. THE GIVEN ROWS OF THIS SEAT. 9 by the template 'for every input the law returns true; each argument reads behind the call as it read before'; 0 by the template 'total and deterministic' (their statements: YtfmcdbcoljpomaaTotals.lean).
  GIVEN WITH THE SEED: the statements are not yours to turn. If you find one false, say at which input.
  Laid BY PROGRAM, IN A SANDBOX (cutbox-rows.mjs): the forced cells as the released guide's own fill.sh prints them over the translation d6f3a3385e31c386… (all of the seat's roots in one cut). By AI agents, Wed Nov 11 2026. No macro, syntax, notation, axiom, sorry.
-/
import Derived.Test.YtfmcdbcoljpomaaChecked
import GoSem.Claim
import GoSem.ClaimJoined
import GoSem.ClaimMapViews
import Derived.JoinedTies
import Derived.KernelRfl
namespace Go.Proofs.Ytfmcdbcoljpomaa
/- THE CELL 'sum', in the pinned program and in every row, IS THE sha256 OF THE DUMP (.gsa) THAT YtfmcdbcoljpomaaProg.lean LOADS. Nothing in Lean hashes anything: it is a label: what it is worth is what the hold of that sum in a sandbox is worth. -/
noncomputable def Try.pinned : Pinned := { name := "ytfmcdbcoljpomaa", sum := "d6f3a3385e31c386098a8324b89c75effc3f7248510ef187338d542b13c98855", checked := Try.checked }
namespace Rows
def none {H : Type} : Left H := { results := [], args := [] }

/-- 'boulelaw11.ShopAlarms': WHATEVER THE INPUT: true; the input reads as it did. -/
def shopAlarmsSpec : ChangeSpec := { name := "shopAlarms", fn := fun _ => fun
  | [d1, d2] => { results := [.lit (.bool true)], args := [d1, d2] }
  | _ => none }
def shopAlarmsRow : OpenClaim := { program := "ytfmcdbcoljpomaa", sum := "d6f3a3385e31c386098a8324b89c75effc3f7248510ef187338d542b13c98855", func := "boule/boulelaw11.ShopAlarms", spec := "shopAlarms", unfollowed := true, recurses := true, plainKeys := false, apart := false }
def ShopAlarmsSaid : Prop := shopAlarmsRow.holds Try.pinned (OpenSpec.ofChange shopAlarmsSpec)

/-- ITS FALSE NEIGHBOUR: 'it returns false'. Refute it at one input. -/
def shopAlarmsWrong : ChangeSpec := { name := "shopAlarms", fn := fun _ => fun
  | [d1, d2] => { results := [.lit (.bool false)], args := [d1, d2] }
  | _ => none }
def ShopAlarmsWrongFalsely : Prop := shopAlarmsRow.holds Try.pinned (OpenSpec.ofChange shopAlarmsWrong)

/-- 'boulelaw11.ShopAges': WHATEVER THE INPUT: true; the input reads as it did. -/
def shopAgesSpec : ChangeSpec := { name := "shopAges", fn := fun _ => fun
  | [d1, d2, d3] => { results := [.lit (.bool true)], args := [d1, d2, d3] }
  | _ => none }
def shopAgesRow : OpenClaim := { program := "ytfmcdbcoljpomaa", sum := "d6f3a3385e31c386098a8324b89c75effc3f7248510ef187338d542b13c98855", func := "boule/boulelaw11.ShopAges", spec := "shopAges", unfollowed := true, recurses := true, plainKeys := false, apart := false }
def ShopAgesSaid : Prop := shopAgesRow.holds Try.pinned (OpenSpec.ofChange shopAgesSpec)

/-- ITS FALSE NEIGHBOUR: 'it returns false'. Refute it at one input. -/
def shopAgesWrong : ChangeSpec := { name := "shopAges", fn := fun _ => fun
  | [d1, d2, d3] => { results := [.lit (.bool false)], args := [d1, d2, d3] }
  | _ => none }
def ShopAgesWrongFalsely : Prop := shopAgesRow.holds Try.pinned (OpenSpec.ofChange shopAgesWrong)

/-- 'boulelaw11.ShopTaints': WHATEVER THE INPUT: true; the input reads as it did. -/
def shopTaintsSpec : ChangeSpec := { name := "shopTaints", fn := fun _ => fun
  | [d1, d2] => { results := [.lit (.bool true)], args := [d1, d2] }
  | _ => none }
def shopTaintsRow : OpenClaim := { program := "ytfmcdbcoljpomaa", sum := "d6f3a3385e31c386098a8324b89c75effc3f7248510ef187338d542b13c98855", func := "boule/boulelaw11.ShopTaints", spec := "shopTaints", unfollowed := true, recurses := true, plainKeys := false, apart := false }
def ShopTaintsSaid : Prop := shopTaintsRow.holds Try.pinned (OpenSpec.ofChange shopTaintsSpec)

/-- ITS FALSE NEIGHBOUR: 'it returns false'. Refute it at one input. -/
def shopTaintsWrong : ChangeSpec := { name := "shopTaints", fn := fun _ => fun
  | [d1, d2] => { results := [.lit (.bool false)], args := [d1, d2] }
  | _ => none }
def ShopTaintsWrongFalsely : Prop := shopTaintsRow.holds Try.pinned (OpenSpec.ofChange shopTaintsWrong)

/-- 'boulelaw11.ShopCharts': WHATEVER THE INPUT: true; the input reads as it did. -/
def shopChartsSpec : ChangeSpec := { name := "shopCharts", fn := fun _ => fun
  | [d1, d2, d3] => { results := [.lit (.bool true)], args := [d1, d2, d3] }
  | _ => none }
def shopChartsRow : OpenClaim := { program := "ytfmcdbcoljpomaa", sum := "d6f3a3385e31c386098a8324b89c75effc3f7248510ef187338d542b13c98855", func := "boule/boulelaw11.ShopCharts", spec := "shopCharts", unfollowed := true, recurses := true, plainKeys := false, apart := false }
def ShopChartsSaid : Prop := shopChartsRow.holds Try.pinned (OpenSpec.ofChange shopChartsSpec)

/-- ITS FALSE NEIGHBOUR: 'it returns false'. Refute it at one input. -/
def shopChartsWrong : ChangeSpec := { name := "shopCharts", fn := fun _ => fun
  | [d1, d2, d3] => { results := [.lit (.bool false)], args := [d1, d2, d3] }
  | _ => none }
def ShopChartsWrongFalsely : Prop := shopChartsRow.holds Try.pinned (OpenSpec.ofChange shopChartsWrong)

/-- 'boulelaw11.ShopAgesTrue': WHATEVER THE INPUT: true; the input reads as it did. -/
def shopAgesTrueSpec : ChangeSpec := { name := "shopAgesTrue", fn := fun _ => fun
  | [d1, d2, d3] => { results := [.lit (.bool true)], args := [d1, d2, d3] }
  | _ => none }
def shopAgesTrueRow : OpenClaim := { program := "ytfmcdbcoljpomaa", sum := "d6f3a3385e31c386098a8324b89c75effc3f7248510ef187338d542b13c98855", func := "boule/boulelaw11.ShopAgesTrue", spec := "shopAgesTrue", unfollowed := true, recurses := true, plainKeys := false, apart := false }
def ShopAgesTrueSaid : Prop := shopAgesTrueRow.holds Try.pinned (OpenSpec.ofChange shopAgesTrueSpec)

/-- ITS FALSE NEIGHBOUR: 'it returns false'. Refute it at one input. -/
def shopAgesTrueWrong : ChangeSpec := { name := "shopAgesTrue", fn := fun _ => fun
  | [d1, d2, d3] => { results := [.lit (.bool false)], args := [d1, d2, d3] }
  | _ => none }
def ShopAgesTrueWrongFalsely : Prop := shopAgesTrueRow.holds Try.pinned (OpenSpec.ofChange shopAgesTrueWrong)

/-- 'boulelaw11.ShopTouched': WHATEVER THE INPUT: true; the input reads as it did. -/
def shopTouchedSpec : ChangeSpec := { name := "shopTouched", fn := fun _ => fun
  | [d1, d2, d3] => { results := [.lit (.bool true)], args := [d1, d2, d3] }
  | _ => none }
def shopTouchedRow : OpenClaim := { program := "ytfmcdbcoljpomaa", sum := "d6f3a3385e31c386098a8324b89c75effc3f7248510ef187338d542b13c98855", func := "boule/boulelaw11.ShopTouched", spec := "shopTouched", unfollowed := true, recurses := true, plainKeys := false, apart := false }
def ShopTouchedSaid : Prop := shopTouchedRow.holds Try.pinned (OpenSpec.ofChange shopTouchedSpec)

/-- ITS FALSE NEIGHBOUR: 'it returns false'. Refute it at one input. -/
def shopTouchedWrong : ChangeSpec := { name := "shopTouched", fn := fun _ => fun
  | [d1, d2, d3] => { results := [.lit (.bool false)], args := [d1, d2, d3] }
  | _ => none }
def ShopTouchedWrongFalsely : Prop := shopTouchedRow.holds Try.pinned (OpenSpec.ofChange shopTouchedWrong)

/-- 'boulelaw11.ShopNothing': WHATEVER THE INPUT: true; the input reads as it did. -/
def shopNothingSpec : ChangeSpec := { name := "shopNothing", fn := fun _ => fun
  | [d] => { results := [.lit (.bool true)], args := [d] }
  | _ => none }
def shopNothingRow : OpenClaim := { program := "ytfmcdbcoljpomaa", sum := "d6f3a3385e31c386098a8324b89c75effc3f7248510ef187338d542b13c98855", func := "boule/boulelaw11.ShopNothing", spec := "shopNothing", unfollowed := true, recurses := true, plainKeys := false, apart := false }
def ShopNothingSaid : Prop := shopNothingRow.holds Try.pinned (OpenSpec.ofChange shopNothingSpec)

/-- ITS FALSE NEIGHBOUR: 'it returns false'. Refute it at one input. -/
def shopNothingWrong : ChangeSpec := { name := "shopNothing", fn := fun _ => fun
  | [d] => { results := [.lit (.bool false)], args := [d] }
  | _ => none }
def ShopNothingWrongFalsely : Prop := shopNothingRow.holds Try.pinned (OpenSpec.ofChange shopNothingWrong)

/-- 'boulelaw11.ShopHeld': WHATEVER THE INPUT: true; the input reads as it did. -/
def shopHeldSpec : ChangeSpec := { name := "shopHeld", fn := fun _ => fun
  | [d1, d2] => { results := [.lit (.bool true)], args := [d1, d2] }
  | _ => none }
def shopHeldRow : OpenClaim := { program := "ytfmcdbcoljpomaa", sum := "d6f3a3385e31c386098a8324b89c75effc3f7248510ef187338d542b13c98855", func := "boule/boulelaw11.ShopHeld", spec := "shopHeld", unfollowed := true, recurses := true, plainKeys := false, apart := false }
def ShopHeldSaid : Prop := shopHeldRow.holds Try.pinned (OpenSpec.ofChange shopHeldSpec)

/-- ITS FALSE NEIGHBOUR: 'it returns false'. Refute it at one input. -/
def shopHeldWrong : ChangeSpec := { name := "shopHeld", fn := fun _ => fun
  | [d1, d2] => { results := [.lit (.bool false)], args := [d1, d2] }
  | _ => none }
def ShopHeldWrongFalsely : Prop := shopHeldRow.holds Try.pinned (OpenSpec.ofChange shopHeldWrong)

/-- 'boulelaw11.ShopOthers': WHATEVER THE INPUT: true; the input reads as it did. -/
def shopOthersSpec : ChangeSpec := { name := "shopOthers", fn := fun _ => fun
  | [d1, d2] => { results := [.lit (.bool true)], args := [d1, d2] }
  | _ => none }
def shopOthersRow : OpenClaim := { program := "ytfmcdbcoljpomaa", sum := "d6f3a3385e31c386098a8324b89c75effc3f7248510ef187338d542b13c98855", func := "boule/boulelaw11.ShopOthers", spec := "shopOthers", unfollowed := true, recurses := true, plainKeys := false, apart := false }
def ShopOthersSaid : Prop := shopOthersRow.holds Try.pinned (OpenSpec.ofChange shopOthersSpec)

/-- ITS FALSE NEIGHBOUR: 'it returns false'. Refute it at one input. -/
def shopOthersWrong : ChangeSpec := { name := "shopOthers", fn := fun _ => fun
  | [d1, d2] => { results := [.lit (.bool false)], args := [d1, d2] }
  | _ => none }
def ShopOthersWrongFalsely : Prop := shopOthersRow.holds Try.pinned (OpenSpec.ofChange shopOthersWrong)

/- THE SECOND FORM. 'bulk': how many values and letters a reading holds, each counted each time it is reached (what is shared counts as often as it is met; a slice's spare places count too). A statement '..UptoSaid' is the law's where the arguments, and the package variables that the reading takes, are together of bulk at most 1048576: NARROWER than '..Said'. Prove '..Said' where nothing that the law and all that it calls make is longer than what came in: it says more and counts as full. Else prove '..UptoSaid'. A law counts once. -/
mutual
def uptoBulk {H : Type} : DataW H → Nat
  | .lit (.string bytes) => bytes.length + 1
  | .lit _ => 1
  | .nil => 1
  | .ptr d => uptoBulk d + 1
  | .slice elems spare => uptoBulkAll elems + uptoBulkAll spare + 1
  | .agg parts => uptoBulkAll parts + 1
  | .iface _ d => uptoBulk d + 1
  | .map entries => uptoBulkEntries entries + 1
  | .held _ => 1
def uptoBulkAll {H : Type} : List (DataW H) → Nat
  | [] => 0
  | d :: r => uptoBulk d + uptoBulkAll r
def uptoBulkEntries {H : Type} : List (Lit × DataW H) → Nat
  | [] => 0
  | x :: r => uptoBulkEntry x + uptoBulkEntries r
def uptoBulkEntry {H : Type} : Lit × DataW H → Nat
  | (.string bytes, d) => bytes.length + uptoBulk d + 1
  | (_, d) => uptoBulk d + 1
 end
def uptoSmall : (H : Type) → List (DataW H) → Bool := fun _ ds => decide (uptoBulkAll ds ≤ 1048576)
def OpenSpec.upto (s : _root_.Go.ChangeSpec) : _root_.Go.OpenSpec := { _root_.Go.OpenSpec.ofChange s with cond := some uptoSmall }

/-- 'boulelaw11.ShopAlarms', WHERE WHAT IT READS IS OF BULK AT MOST 1048576: true; the input reads as it did. -/
def shopAlarmsUptoRow : OpenClaim := { program := "ytfmcdbcoljpomaa", sum := "d6f3a3385e31c386098a8324b89c75effc3f7248510ef187338d542b13c98855", func := "boule/boulelaw11.ShopAlarms", spec := "shopAlarms", unfollowed := true, recurses := true, plainKeys := false, apart := false, narrowed := true }
def ShopAlarmsUptoSaid : Prop := shopAlarmsUptoRow.holds Try.pinned (OpenSpec.upto shopAlarmsSpec)

/-- 'boulelaw11.ShopAges', WHERE WHAT IT READS IS OF BULK AT MOST 1048576: true; the input reads as it did. -/
def shopAgesUptoRow : OpenClaim := { program := "ytfmcdbcoljpomaa", sum := "d6f3a3385e31c386098a8324b89c75effc3f7248510ef187338d542b13c98855", func := "boule/boulelaw11.ShopAges", spec := "shopAges", unfollowed := true, recurses := true, plainKeys := false, apart := false, narrowed := true }
def ShopAgesUptoSaid : Prop := shopAgesUptoRow.holds Try.pinned (OpenSpec.upto shopAgesSpec)

/-- 'boulelaw11.ShopTaints', WHERE WHAT IT READS IS OF BULK AT MOST 1048576: true; the input reads as it did. -/
def shopTaintsUptoRow : OpenClaim := { program := "ytfmcdbcoljpomaa", sum := "d6f3a3385e31c386098a8324b89c75effc3f7248510ef187338d542b13c98855", func := "boule/boulelaw11.ShopTaints", spec := "shopTaints", unfollowed := true, recurses := true, plainKeys := false, apart := false, narrowed := true }
def ShopTaintsUptoSaid : Prop := shopTaintsUptoRow.holds Try.pinned (OpenSpec.upto shopTaintsSpec)

/-- 'boulelaw11.ShopCharts', WHERE WHAT IT READS IS OF BULK AT MOST 1048576: true; the input reads as it did. -/
def shopChartsUptoRow : OpenClaim := { program := "ytfmcdbcoljpomaa", sum := "d6f3a3385e31c386098a8324b89c75effc3f7248510ef187338d542b13c98855", func := "boule/boulelaw11.ShopCharts", spec := "shopCharts", unfollowed := true, recurses := true, plainKeys := false, apart := false, narrowed := true }
def ShopChartsUptoSaid : Prop := shopChartsUptoRow.holds Try.pinned (OpenSpec.upto shopChartsSpec)

/-- 'boulelaw11.ShopAgesTrue', WHERE WHAT IT READS IS OF BULK AT MOST 1048576: true; the input reads as it did. -/
def shopAgesTrueUptoRow : OpenClaim := { program := "ytfmcdbcoljpomaa", sum := "d6f3a3385e31c386098a8324b89c75effc3f7248510ef187338d542b13c98855", func := "boule/boulelaw11.ShopAgesTrue", spec := "shopAgesTrue", unfollowed := true, recurses := true, plainKeys := false, apart := false, narrowed := true }
def ShopAgesTrueUptoSaid : Prop := shopAgesTrueUptoRow.holds Try.pinned (OpenSpec.upto shopAgesTrueSpec)

/-- 'boulelaw11.ShopTouched', WHERE WHAT IT READS IS OF BULK AT MOST 1048576: true; the input reads as it did. -/
def shopTouchedUptoRow : OpenClaim := { program := "ytfmcdbcoljpomaa", sum := "d6f3a3385e31c386098a8324b89c75effc3f7248510ef187338d542b13c98855", func := "boule/boulelaw11.ShopTouched", spec := "shopTouched", unfollowed := true, recurses := true, plainKeys := false, apart := false, narrowed := true }
def ShopTouchedUptoSaid : Prop := shopTouchedUptoRow.holds Try.pinned (OpenSpec.upto shopTouchedSpec)

/-- 'boulelaw11.ShopNothing', WHERE WHAT IT READS IS OF BULK AT MOST 1048576: true; the input reads as it did. -/
def shopNothingUptoRow : OpenClaim := { program := "ytfmcdbcoljpomaa", sum := "d6f3a3385e31c386098a8324b89c75effc3f7248510ef187338d542b13c98855", func := "boule/boulelaw11.ShopNothing", spec := "shopNothing", unfollowed := true, recurses := true, plainKeys := false, apart := false, narrowed := true }
def ShopNothingUptoSaid : Prop := shopNothingUptoRow.holds Try.pinned (OpenSpec.upto shopNothingSpec)

/-- 'boulelaw11.ShopHeld', WHERE WHAT IT READS IS OF BULK AT MOST 1048576: true; the input reads as it did. -/
def shopHeldUptoRow : OpenClaim := { program := "ytfmcdbcoljpomaa", sum := "d6f3a3385e31c386098a8324b89c75effc3f7248510ef187338d542b13c98855", func := "boule/boulelaw11.ShopHeld", spec := "shopHeld", unfollowed := true, recurses := true, plainKeys := false, apart := false, narrowed := true }
def ShopHeldUptoSaid : Prop := shopHeldUptoRow.holds Try.pinned (OpenSpec.upto shopHeldSpec)

/-- 'boulelaw11.ShopOthers', WHERE WHAT IT READS IS OF BULK AT MOST 1048576: true; the input reads as it did. -/
def shopOthersUptoRow : OpenClaim := { program := "ytfmcdbcoljpomaa", sum := "d6f3a3385e31c386098a8324b89c75effc3f7248510ef187338d542b13c98855", func := "boule/boulelaw11.ShopOthers", spec := "shopOthers", unfollowed := true, recurses := true, plainKeys := false, apart := false, narrowed := true }
def ShopOthersUptoSaid : Prop := shopOthersUptoRow.holds Try.pinned (OpenSpec.upto shopOthersSpec)

end Rows
end Go.Proofs.Ytfmcdbcoljpomaa
