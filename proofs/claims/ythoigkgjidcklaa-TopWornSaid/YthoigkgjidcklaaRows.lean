/-
  No cell of these rows narrows 'for every input' (looked for: loops, veiled, ifaces, maps, wideKeys, modest, calm, conditions, laid).
  DERIVED. THE GIVEN ROWS OF THIS SEAT. 5 by the template 'for every input the law returns true; each argument reads behind the call as it read before'; 0 by the template 'total and deterministic' (their statements: YthoigkgjidcklaaTotals.lean).
  GIVEN WITH THE SEED: the statements are not yours to turn. If you find one false, say at which input.
  Laid BY PROGRAM, IN A SANDBOX (cutbox-rows.mjs): the forced cells as the released guide's own fill.sh prints them over the translation 6f3e49c83d48b07b… (all of the seat's roots in one cut). By AI agents, Wed Nov 11 2026. No macro, syntax, notation, axiom, sorry.
-/
import Derived.Test.YthoigkgjidcklaaChecked
import GoSem.Claim
import GoSem.ClaimJoined
import GoSem.ClaimMapViews
import Derived.JoinedTies
import Derived.KernelRfl
namespace Go.Proofs.Ythoigkgjidcklaa
/- THE CELL 'sum', in the pinned program and in every row, IS THE sha256 OF THE DUMP (.gsa) THAT YthoigkgjidcklaaProg.lean LOADS. Nothing in Lean hashes anything: it is a label: what it is worth is what the hold of that sum in a sandbox is worth. -/
noncomputable def Try.pinned : Pinned := { name := "ythoigkgjidcklaa", sum := "6f3e49c83d48b07bf1747107cee8ec96ff9360bd7b90dfee1c9cecf2456be521", checked := Try.checked }
namespace Rows
def none {H : Type} : Left H := { results := [], args := [] }

/-- 'boulelaw11.ShopHeld': WHATEVER THE INPUT: true; the input reads as it did. -/
def shopHeldSpec : ChangeSpec := { name := "shopHeld", fn := fun _ => fun
  | [d1, d2] => { results := [.lit (.bool true)], args := [d1, d2] }
  | _ => none }
def shopHeldRow : OpenClaim := { program := "ythoigkgjidcklaa", sum := "6f3e49c83d48b07bf1747107cee8ec96ff9360bd7b90dfee1c9cecf2456be521", func := "boule/boulelaw11.ShopHeld", spec := "shopHeld", unfollowed := true, recurses := true, plainKeys := false, apart := false }
def ShopHeldSaid : Prop := shopHeldRow.holds Try.pinned (OpenSpec.ofChange shopHeldSpec)

/-- ITS FALSE NEIGHBOUR: 'it returns false'. Refute it at one input. -/
def shopHeldWrong : ChangeSpec := { name := "shopHeld", fn := fun _ => fun
  | [d1, d2] => { results := [.lit (.bool false)], args := [d1, d2] }
  | _ => none }
def ShopHeldWrongFalsely : Prop := shopHeldRow.holds Try.pinned (OpenSpec.ofChange shopHeldWrong)

/-- 'boulelaw11.ShopOthers': WHATEVER THE INPUT: true; the input reads as it did. -/
def shopOthersSpec : ChangeSpec := { name := "shopOthers", fn := fun _ => fun
  | [d1, d2] => { results := [.lit (.bool true)], args := [d1, d2] }
  | _ => none }
def shopOthersRow : OpenClaim := { program := "ythoigkgjidcklaa", sum := "6f3e49c83d48b07bf1747107cee8ec96ff9360bd7b90dfee1c9cecf2456be521", func := "boule/boulelaw11.ShopOthers", spec := "shopOthers", unfollowed := true, recurses := true, plainKeys := false, apart := false }
def ShopOthersSaid : Prop := shopOthersRow.holds Try.pinned (OpenSpec.ofChange shopOthersSpec)

/-- ITS FALSE NEIGHBOUR: 'it returns false'. Refute it at one input. -/
def shopOthersWrong : ChangeSpec := { name := "shopOthers", fn := fun _ => fun
  | [d1, d2] => { results := [.lit (.bool false)], args := [d1, d2] }
  | _ => none }
def ShopOthersWrongFalsely : Prop := shopOthersRow.holds Try.pinned (OpenSpec.ofChange shopOthersWrong)

/-- 'bouletop.TopWorn': WHATEVER THE INPUT: true; the input reads as it did. -/
def topWornSpec : ChangeSpec := { name := "topWorn", fn := fun _ => fun
  | [d1, d2, d3] => { results := [.lit (.bool true)], args := [d1, d2, d3] }
  | _ => none }
def topWornRow : OpenClaim := { program := "ythoigkgjidcklaa", sum := "6f3e49c83d48b07bf1747107cee8ec96ff9360bd7b90dfee1c9cecf2456be521", func := "boule/bouletop.TopWorn", spec := "topWorn", inPlace := ["math/bits.Sub64"], unfollowed := true, recurses := true, plainKeys := false, apart := false }
def TopWornSaid : Prop := topWornRow.holds Try.pinned (OpenSpec.ofChange topWornSpec)

/-- ITS FALSE NEIGHBOUR: 'it returns false'. Refute it at one input. -/
def topWornWrong : ChangeSpec := { name := "topWorn", fn := fun _ => fun
  | [d1, d2, d3] => { results := [.lit (.bool false)], args := [d1, d2, d3] }
  | _ => none }
def TopWornWrongFalsely : Prop := topWornRow.holds Try.pinned (OpenSpec.ofChange topWornWrong)

/-- 'bouletop.TopTogether': WHATEVER THE INPUT: true; the input reads as it did. -/
def topTogetherSpec : ChangeSpec := { name := "topTogether", fn := fun _ => fun
  | [d] => { results := [.lit (.bool true)], args := [d] }
  | _ => none }
def topTogetherRow : OpenClaim := { program := "ythoigkgjidcklaa", sum := "6f3e49c83d48b07bf1747107cee8ec96ff9360bd7b90dfee1c9cecf2456be521", func := "boule/bouletop.TopTogether", spec := "topTogether", inPlace := ["math/bits.Sub64"], unfollowed := true, recurses := true, plainKeys := false, apart := false }
def TopTogetherSaid : Prop := topTogetherRow.holds Try.pinned (OpenSpec.ofChange topTogetherSpec)

/-- ITS FALSE NEIGHBOUR: 'it returns false'. Refute it at one input. -/
def topTogetherWrong : ChangeSpec := { name := "topTogether", fn := fun _ => fun
  | [d] => { results := [.lit (.bool false)], args := [d] }
  | _ => none }
def TopTogetherWrongFalsely : Prop := topTogetherRow.holds Try.pinned (OpenSpec.ofChange topTogetherWrong)

/-- 'bouletop.TopTainted': WHATEVER THE INPUT: true; the input reads as it did. -/
def topTaintedSpec : ChangeSpec := { name := "topTainted", fn := fun _ => fun
  | [d1, d2] => { results := [.lit (.bool true)], args := [d1, d2] }
  | _ => none }
def topTaintedRow : OpenClaim := { program := "ythoigkgjidcklaa", sum := "6f3e49c83d48b07bf1747107cee8ec96ff9360bd7b90dfee1c9cecf2456be521", func := "boule/bouletop.TopTainted", spec := "topTainted", inPlace := ["math/bits.Sub64"], unfollowed := true, recurses := true, plainKeys := false, apart := false }
def TopTaintedSaid : Prop := topTaintedRow.holds Try.pinned (OpenSpec.ofChange topTaintedSpec)

/-- ITS FALSE NEIGHBOUR: 'it returns false'. Refute it at one input. -/
def topTaintedWrong : ChangeSpec := { name := "topTainted", fn := fun _ => fun
  | [d1, d2] => { results := [.lit (.bool false)], args := [d1, d2] }
  | _ => none }
def TopTaintedWrongFalsely : Prop := topTaintedRow.holds Try.pinned (OpenSpec.ofChange topTaintedWrong)

/- THE SECOND FORM. 'bulk': how many values and letters a reading holds, each counted each time it is reached (what is shared counts as often as it is met; a slice's spare places count too). A statement '..UptoSaid' is the law's where the arguments, and the package variables that the reading takes, are together of bulk at most 1048576: NARROWER than '..Said'. Prove '..Said' where nothing that the law and all that it calls make is longer than what came in: it says more and counts as full. Else prove '..UptoSaid'. A law counts once. -/
mutual
def uptoBulk {H : Type} : DataW H → Nat
  | .lit (.string bytes) => bytes.length + 1
  | .lit _ => 1
  | .nil => 1
  | .ptr d => uptoBulk d + 1
  | .slice elems spare => uptoBulkAll elems + uptoBulkAll spare + 1
  | .agg parts => uptoBulkAll parts + 1
  | .iface _ d => uptoBulk d + 1
  | .map entries => uptoBulkEntries entries + 1
  | .held _ => 1
def uptoBulkAll {H : Type} : List (DataW H) → Nat
  | [] => 0
  | d :: r => uptoBulk d + uptoBulkAll r
def uptoBulkEntries {H : Type} : List (Lit × DataW H) → Nat
  | [] => 0
  | x :: r => uptoBulkEntry x + uptoBulkEntries r
def uptoBulkEntry {H : Type} : Lit × DataW H → Nat
  | (.string bytes, d) => bytes.length + uptoBulk d + 1
  | (_, d) => uptoBulk d + 1
 end
def uptoSmall : (H : Type) → List (DataW H) → Bool := fun _ ds => decide (uptoBulkAll ds ≤ 1048576)
def OpenSpec.upto (s : _root_.Go.ChangeSpec) : _root_.Go.OpenSpec := { _root_.Go.OpenSpec.ofChange s with cond := some uptoSmall }

/-- 'boulelaw11.ShopHeld', WHERE WHAT IT READS IS OF BULK AT MOST 1048576: true; the input reads as it did. -/
def shopHeldUptoRow : OpenClaim := { program := "ythoigkgjidcklaa", sum := "6f3e49c83d48b07bf1747107cee8ec96ff9360bd7b90dfee1c9cecf2456be521", func := "boule/boulelaw11.ShopHeld", spec := "shopHeld", unfollowed := true, recurses := true, plainKeys := false, apart := false, narrowed := true }
def ShopHeldUptoSaid : Prop := shopHeldUptoRow.holds Try.pinned (OpenSpec.upto shopHeldSpec)

/-- 'boulelaw11.ShopOthers', WHERE WHAT IT READS IS OF BULK AT MOST 1048576: true; the input reads as it did. -/
def shopOthersUptoRow : OpenClaim := { program := "ythoigkgjidcklaa", sum := "6f3e49c83d48b07bf1747107cee8ec96ff9360bd7b90dfee1c9cecf2456be521", func := "boule/boulelaw11.ShopOthers", spec := "shopOthers", unfollowed := true, recurses := true, plainKeys := false, apart := false, narrowed := true }
def ShopOthersUptoSaid : Prop := shopOthersUptoRow.holds Try.pinned (OpenSpec.upto shopOthersSpec)

/-- 'bouletop.TopWorn', WHERE WHAT IT READS IS OF BULK AT MOST 1048576: true; the input reads as it did. -/
def topWornUptoRow : OpenClaim := { program := "ythoigkgjidcklaa", sum := "6f3e49c83d48b07bf1747107cee8ec96ff9360bd7b90dfee1c9cecf2456be521", func := "boule/bouletop.TopWorn", spec := "topWorn", inPlace := ["math/bits.Sub64"], unfollowed := true, recurses := true, plainKeys := false, apart := false, narrowed := true }
def TopWornUptoSaid : Prop := topWornUptoRow.holds Try.pinned (OpenSpec.upto topWornSpec)

/-- 'bouletop.TopTogether', WHERE WHAT IT READS IS OF BULK AT MOST 1048576: true; the input reads as it did. -/
def topTogetherUptoRow : OpenClaim := { program := "ythoigkgjidcklaa", sum := "6f3e49c83d48b07bf1747107cee8ec96ff9360bd7b90dfee1c9cecf2456be521", func := "boule/bouletop.TopTogether", spec := "topTogether", inPlace := ["math/bits.Sub64"], unfollowed := true, recurses := true, plainKeys := false, apart := false, narrowed := true }
def TopTogetherUptoSaid : Prop := topTogetherUptoRow.holds Try.pinned (OpenSpec.upto topTogetherSpec)

/-- 'bouletop.TopTainted', WHERE WHAT IT READS IS OF BULK AT MOST 1048576: true; the input reads as it did. -/
def topTaintedUptoRow : OpenClaim := { program := "ythoigkgjidcklaa", sum := "6f3e49c83d48b07bf1747107cee8ec96ff9360bd7b90dfee1c9cecf2456be521", func := "boule/bouletop.TopTainted", spec := "topTainted", inPlace := ["math/bits.Sub64"], unfollowed := true, recurses := true, plainKeys := false, apart := false, narrowed := true }
def TopTaintedUptoSaid : Prop := topTaintedUptoRow.holds Try.pinned (OpenSpec.upto topTaintedSpec)

end Rows
end Go.Proofs.Ythoigkgjidcklaa
