/-
  Chapter 7, turns and suits: the memory of both laws; where a conflict is found.
-/
import Derived.Test.YtlkfcbdbieenhaaCropT9
set_option linter.unusedSimpArgs false
set_option linter.unusedVariables false
namespace Go.Proofs.Ytlkfcbdbieenhaa
open Go.RowKit Go.Vm
set_option maxRecDepth 100000
theorem conR_le {l : List Tl} {tol : Int} {js : List Int} (h : conR l tol = some js) : ckT l tol = 0 ∧ conF (apart l tol) l.length l.length 1 = some js := by
  unfold conR at h
  split at h
  · rename_i g
    exact ⟨g, h⟩
  · cases h
theorem conF_mem {p : List Int → Bool} {n : Int} {c : List Int} : ∀ d m, conF p n d m = some c → ∃ k, m ≤ k ∧ k < m + d ∧ c ∈ lsM n k 0 ∧ p c = true ∧ ∀ k', m ≤ k' → k' < k → ∀ js ∈ lsM n k' 0, p js = false
  | 0, m, h => by cases h
  | d + 1, m, h => by
    unfold conF at h
    cases e : (lsM n m 0).find? p with
    | some x =>
      rw [e] at h
      cases h
      exact ⟨m, Nat.le_refl _, by omega, List.mem_of_find?_eq_some e, List.find?_some e, fun k' h1 h2 => by omega⟩
    | none =>
      rw [e] at h
      obtain ⟨k, h1, h2, h3, h4, h5⟩ := conF_mem d (m + 1) h
      refine ⟨k, by omega, by omega, h3, h4, fun k' q1 q2 js hj => ?_⟩
      by_cases q : k' = m
      · subst q
        have := List.find?_eq_none.1 e js hj
        simpa using this
      · exact h5 k' (by omega) q2 js hj
abbrev xV (n c : Nat) (tol sx sy : Int) : List Value := [sT n c, .int .i64 tol, .int .i64 sx, .int .i64 sy]
abbrev m3 (n c : Nat) (l : List Tl) (tol sx sy : Int) (R : List (Option AObj)) : List (Option AObj) := none :: some (.cells ⟨rows eT l, 0, false⟩) :: some (.cells ⟨xV n c tol sx sy, 1, false⟩) :: R
theorem eq_same (a b : Int) : cellsEq [false, false] [.int .i64 a, .int .i64 b] [.int .i64 a, .int .i64 b] = some true := by simp [cellsEq, cellEq]
abbrev m5 (n c : Nat) (l : List Tl) (tol sx sy : Int) (R : List (Option AObj)) : List (Option AObj) := m3 n c l tol sx sy (some (.cells ⟨[.int .i64 (turnF l tol).1, .int .i64 (turnF l tol).2.1], 1, false⟩) :: some (.cells ⟨rows eN ((conR l tol).getD []), 1, true⟩) :: R)
abbrev l5 (l : List Tl) (tol : Int) (R : Fr) : Fr := (2, pt 2) :: (9, pt 3) :: (10, .int .i64 (turnF l tol).2.2) :: (11, .slice (some ⟨4, 0, none⟩) ((conR l tol).getD []).length openB) :: (12, .int .i64 (conE l tol)) :: R
abbrev endT : AEx → Fr → List Nat → AH → Prop := EndR Try.prog [.tmp 4] 2 [] (.bool true)
end Go.Proofs.Ytlkfcbdbieenhaa
