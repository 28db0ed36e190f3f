/-
  Chapter 6: the law RecordGets, by names.
-/
import Derived.Test.YtgjokhodccacoaaDoorSRecG4
set_option linter.unusedSimpArgs false
set_option linter.unusedVariables false
namespace Go.Vm
open Go Go.RowKit
section
variable {P : Program} {w : Bool} {t el : TypeId} {f : TypeInfo} {s k n c sz : Nat} {l : Fr} {h : AH} {K : Value → AH → Prop} {op : Bool} {xs : List Int}
end
end Go.Vm
namespace Go.Proofs.YtgjokhodccacoaaDoor
open Go.RowKit Go.Vm
set_option maxRecDepth 100000
theorem rget_f {n c sz k : Nat} {op : Bool} {xs : List Int} {h : AH} (at_ : Int) (hn : xs.length = n) (hB : isB xs) (hb : n ≤ 1000000) (hc : n ≤ c) (hco : c < openB) (hs : h.sees 0 = true) (hg : h.get k = some (.cells ⟨rows eB xs, sz, op⟩)) :
    Fc Tryd.prog 26 [.slice (some ⟨k, 0, none⟩) n c, .int .i64 at_] h (gtV h.next (getR xs at_)) (h.news [.cells ⟨rows eB (getR xs at_).2.1, 1, true⟩]) :=
  Fc.lift1o (os := [((getR xs at_).2.1.length, rows eB (getR xs at_).2.1, 1)]) (mk := fun ss => ss ++ [.int .i64 at_]) (mkv := fun ss => .tuple ⟨[.agg ⟨[Value.int .i64 (getR xs at_).1] ++ ss ++ []⟩, .int .i64 (getR xs at_).2.2.1, .int .i64 (getR xs at_).2.2.2]⟩) (rget_c n c at_ xs hn hB hb hc hco) (MkL.app rfl) (MkV.tup (MkL.agg1 (MkL.mid rfl rfl) rfl)) (rows_no (f := eB) _) (fun o h => by simp at h; subst h; exact rows_no (f := eB) _) hs hg
/- boule/boulelaw06.RecordGets · slots 72 · names 0:b 1:at 2:b 3:at 5:in 6:f 7:next 8:e 9:g 10:to 11:h 12:i · results [4] -/
end Go.Proofs.YtgjokhodccacoaaDoor
