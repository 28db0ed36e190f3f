/-
  Regions that draw their order, whose operations only read and whose calls may make memory of their own: one walk, in the text's order.
-/
import Derived.Test.YtlkfcbdbieenhaaMem2
import Derived.BigQuiet
import Derived.Deep.QuietTactic
namespace Go.Proofs.Ytlkfcbdbieenhaa
open Go.RowKit

/-- A world that has what w had, as it was. -/
structure After (w : World) where
  W : World
  bel : Below w.heap.size w W
instance (w : World) : Nonempty (After w) := ⟨⟨w, Below.refl _ _⟩⟩

theorem wp_region_after {P : Program} {id : Nat} {Q : Exit → Act → World → Prop} {a : Act} {w : World} {l : List Oper} (hm : P.follows .mixedOrders = true) (hB : Region.lexB .any l.toArray = true)
    (h : wpQuiet P l.toArray (fun w' => ∃ n : After w, w' = n.W) (fun a' => ∀ w', (∃ n : After w, w' = n.W) → Q .normal a' w') l a) : (Code.region id l.toArray true).wp P Q a w :=
  wp_region_quiet (C := fun w' => ∃ n : After w, w' = n.W) hm hB ⟨⟨w.drew, (Below.refl _ _).drew⟩, rfl⟩ (by simpa using h)

theorem Calls.after {P : Program} {f : FuncId} {args : Array Value} {w : World} {n : After w} {v : Value}
    (h : Calls P f args n.W fun e w' => e = .returned v ∧ Below n.W.heap.size n.W w') : Calls P f args n.W fun e w'' => e = .returned v ∧ ∃ m : After w, w'' = m.W :=
  h.mono fun _ _ hx => ⟨hx.1, ⟨_, thru n.bel hx.2⟩, rfl⟩
theorem After.cell {w : World} (n : After w) {g j : Nat} {v : Value} (hg : g < w.heap.size) (h : w.cell? ⟨g, j, none⟩ = some v) : n.W.cell? ⟨g, j, none⟩ = some v := (n.bel.cell (p := ⟨g, j, none⟩) hg).trans h
end Go.Proofs.Ytlkfcbdbieenhaa
