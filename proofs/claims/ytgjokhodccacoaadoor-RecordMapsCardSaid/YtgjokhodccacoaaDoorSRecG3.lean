import Derived.Test.YtgjokhodccacoaaDoorSRecG2
import Derived.Test.YtgjokhodccacoaaDoorSRecN3
set_option linter.unusedSimpArgs false
set_option linter.unusedVariables false
namespace Go.Vm
open Go Go.RowKit
section
variable {P : Program} {f k n b sz : Nat} {args cs : List Value} {L : List (Option AObj)} {mk : Value → Value} {op : Bool} {h : AH}
theorem gen_eqnil' {w : Bool} {t u : TypeId} {s : Nat} {l : Fr} {K : Value → AH → Prop} {el : TypeId} {a : Addr} {c : Nat} {bl : Blk} (hu : P.underlying t = some (.slice el)) (hm : memCmp .eql t = true) (hl : lk l s = some (.slice (some a) n c)) (hg : h.get a.block = some (.cells bl)) (hc : bl.cells ≠ []) (q : K (.bool false) h) :
    iStep P w (.gen (.binOp .eql t (.tmp s) (.const (.slice none 0 0)) u)) l h K := by
 refine ⟨_, _, ?_, q⟩
 have e1 : aEnv (trOf l) (.tmp s) = some (.slice (some a) n c) := by simp only [aEnv, trOf_get, hl]
 have e2 : aEnv (trOf l) (.const (.slice none 0 0)) = some (.slice none 0 0) := rfl
 have he : bl.cells.isEmpty = false := by cases hb : bl.cells with
  | nil => exact absurd hb hc
  | cons _ _ => rfl
 by_cases hn : n ≠ 0 ∨ (c < openB ∧ c ≠ 0)
 ·simp only [aOp, e1, e2, noAddr, Bool.false_and, Bool.false_eq_true, if_false, aEq, hu, isNil]
  rw [if_pos hn]
 ·simp only [aOp, e1, e2, noAddr, Bool.false_and, Bool.false_eq_true, if_false, aEq, hu, isNil]
  rw [if_neg hn]
  simp only [hm, if_true, aNil, hu, hg, he, Bool.false_eq_true, if_false]
end
end Go.Vm
namespace Go.Proofs.YtgjokhodccacoaaDoor
open Go.RowKit Go.Vm
set_option maxRecDepth 100000
section
variable {wl ks a m n sz : Nat} {op : Bool} {L : List (Option AObj)} {cs : List Value} {xs : List Int}
end
section
variable {src : Option AObj} {T : List (Option AObj)}
end
end Go.Proofs.YtgjokhodccacoaaDoor
