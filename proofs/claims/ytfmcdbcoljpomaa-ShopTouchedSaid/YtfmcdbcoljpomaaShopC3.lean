/-
  Chapter 11, by names: Repeat of one number, from closed runs.
-/
import Derived.Test.YtfmcdbcoljpomaaShopA1
set_option linter.unusedSimpArgs false
set_option linter.unusedVariables false
namespace Go.Proofs.Ytfmcdbcoljpomaa
open Go.RowKit Go.Vm
set_option maxRecDepth 100000
abbrev repM : List (Option AObj) := [none, some (.cells ⟨[.int .i64 (-1)], 0, false⟩)]
noncomputable abbrev repR (c n : Nat) : Option (Value × AH) := (aRun Try.prog noHook 100000 50).fn 58 [.slice (some ⟨1, 0, none⟩) 1 c, .int .i64 n] (Hp 2 repM)
noncomputable def repS (n : Nat) : Option (Value × AH) := some (.slice (some ⟨2, 0, none⟩) n n, Hp 2 (repM ++ [some (.cells ⟨List.replicate n (.int .i64 (-1)), 1, false⟩)]))
theorem rep_list (c : Nat) : (List.range 101).map (repR c) = (List.range 101).map repS := by kernel_rfl
theorem rep_all (c n : Nat) (hn : n ≤ 100) : repR c n = repS n := by
  have h := congrArg (fun l => l[n]?) (rep_list c)
  simp only [List.getElem?_map, List.getElem?_range (show n < 101 by omega), Option.map_some] at h
  exact Option.some.inj h
/-- Repeat of -1. -/
theorem rep_c (n c : Nat) (hn : n ≤ 100) : Fc Try.prog 58 [.slice (some ⟨1, 0, none⟩) 1 c, .int .i64 n] (Hp 2 repM) (.slice (some ⟨2, 0, none⟩) n n) (Hp 2 (repM ++ [some (.cells ⟨List.replicate n (.int .i64 (-1)), 1, false⟩)])) :=
  Fc.of_run (aRun_ok t_mixed t_names noHook_ok 100000 50) (rep_all c n hn)
end Go.Proofs.Ytfmcdbcoljpomaa
