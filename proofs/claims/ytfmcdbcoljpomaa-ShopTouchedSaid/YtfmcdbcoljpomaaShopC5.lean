/-
  Chapter 11, by names: two rows and a number as a result.
-/
import Derived.Test.YtfmcdbcoljpomaaShopA1
set_option linter.unusedSimpArgs false
set_option linter.unusedVariables false
namespace Go.Vm
/-- The results: two new rows and a number. -/
theorem end_own3 {P : Program} {rs : List ResultVar} {l : Fr} {L : List (Option AObj)} {k k2 n m b sz sz2 : Nat} {e : Int} {cs ds : List Value} (hk : b ≤ k) (hk2 : b ≤ k2) (hne : k ≠ k2) (hno : noAddrL cs = true) (hno2 : noAddrL ds = true) (hL : L[k]? = some (some (.cells ⟨cs, sz, true⟩))) (hL2 : L[k2]? = some (some (.cells ⟨ds, sz2, true⟩)))
    (hr : resF P l (Hp b L) rs = some [.slice (some ⟨k, 0, none⟩) n openB, .slice (some ⟨k2, 0, none⟩) m openB, .int .i64 e]) :
    EndR P rs b [.cells ⟨cs, sz, true⟩, .cells ⟨ds, sz2, true⟩] (.tuple #[.slice (some ⟨b, 0, none⟩) n openB, .slice (some ⟨b + 1, 0, none⟩) m openB, .int .i64 e]) .ret l [] (Hp b L) := by
  refine ⟨by simp, rfl, _, [k, k2], [], hr, rfl, by simp [hne], by simp [hk, hk2], (fun p hp => by cases hp), ?_, ?_, fun i o2 h => .inr ?_⟩
  · show Value.tuple #[_, _, _] = .tuple ⟨[mvS .same ⟨(fun k' => if k' < b then k' else [k, k2].getD (k' - b) 0) b, 0, none⟩ n openB, mvS .same ⟨(fun k' => if k' < b then k' else [k, k2].getD (k' - b) 0) (b + 1), 0, none⟩ m openB, _]⟩
    have h1 : ¬ b + 1 < b := by omega
    have h2 : b + 1 - b = 1 := by omega
    simp [mvS, h1, h2]
    rfl
  · exact ⟨⟨by simp, trivial⟩, ⟨by simp, trivial⟩, trivial, trivial⟩
  · match i, h with
    | 0, h =>
      cases h
      refine ⟨(by intro e; cases e), _, (by show (Hp b L).get k = _; rw [Hp_get, hL]; rfl), ?_⟩
      exact ⟨(mvL_noAddr _ _ _ hno).symm, okML_noAddr _ _ _ hno, fun e => e, fun e => ⟨e, rfl⟩⟩
    | 1, h =>
      cases h
      refine ⟨(by intro e; cases e), _, (by show (Hp b L).get k2 = _; rw [Hp_get, hL2]; rfl), ?_⟩
      exact ⟨(mvL_noAddr _ _ _ hno2).symm, okML_noAddr _ _ _ hno2, fun e => e, fun e => ⟨e, rfl⟩⟩
end Go.Vm
