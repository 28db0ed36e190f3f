/-
  Walks by names: parts of slices; whether a slice is nil.
-/
import Derived.Test.YtlkfcbdbieenhaaMh
set_option linter.unusedSimpArgs false
set_option linter.unusedVariables false
namespace Go.Vm
open Go Go.RowKit
theorem Hq_bump {wl : Nat} {hid : List (Nat × Nat)} {L : List (Option AObj)} : (Hq wl hid L).bump = Hq wl hid (L ++ [none]) := by
  unfold AH.bump Hq
  rw [trL_snoc]
  simp
section
variable {P : Program} {w : Bool} {t el : TypeId} {f : TypeInfo} {s k o n c : Nat} {l : Fr} {h : AH} {K : Value → AH → Prop}
/-- All but the first of a row with open room. -/
theorem gen_from1 (hu : P.underlying t = some (.slice el)) (hi : P.info? el = some f) (hsz : f.size = 1) (hl : lk l s = some (.slice (some ⟨k, o, none⟩) n openB)) (hn : 2 ≤ n) (q : K (.slice (some ⟨k, o + 1, none⟩) (n - 1) (openB + 1)) h) :
    iStep P w (.gen (.slice t (.tmp s) (some (.const (.int .i64 1))) none none)) l h K := by
  refine ⟨_, _, ?_, q⟩
  have ho : ¬ openB < openB := Nat.lt_irrefl _
  have h1 : aSlice P t (.slice (some ⟨k, o, none⟩) n openB) (some (.int .i64 1)) none none = some (.slice (some ⟨k, o + 1, none⟩) (n - 1) (openB + 1)) := by
    simp [aSlice, hu, hi, natOf, ho, hsz, Addr.add]
    omega
  have e1 : aEnv (trOf l) (.tmp s) = some (.slice (some ⟨k, o, none⟩) n openB) := by simp only [aEnv, trOf_get, hl]
  have e2 : aOptV (aEnv (trOf l)) (some (.const (.int .i64 1))) = some (some (.int .i64 1)) := rfl
  have e3 : aOptV (aEnv (trOf l)) none = some none := rfl
  simp only [aOp, e1, e2, e3, h1]
theorem gen_from1e (hu : P.underlying t = some (.slice el)) (hi : P.info? el = some f) (hl : lk l s = some (.slice (some ⟨k, o, none⟩) 1 openB)) (q : K (.slice (some ⟨h.next, 0, none⟩) 0 openB) h.bump) :
    iStep P w (.gen (.slice t (.tmp s) (some (.const (.int .i64 1))) none none)) l h K := by
  refine ⟨_, _, ?_, q⟩
  have ho : ¬ openB < openB := Nat.lt_irrefl _
  have h1 : ∀ h : AH, aSlice P t (.slice (some ⟨k, o, none⟩) 1 openB) (some (.int .i64 1)) none none = none := fun _ => by
    simp [aSlice, hu, hi, natOf, ho]
  have h2 : aSliceEnd P h t (.slice (some ⟨k, o, none⟩) 1 openB) (some (.int .i64 1)) none none = some (.slice (some ⟨h.next, 0, none⟩) 0 openB, h.bump) := by
    simp [aSliceEnd, hu, hi, natOf]
  have e1 : aEnv (trOf l) (.tmp s) = some (.slice (some ⟨k, o, none⟩) 1 openB) := by simp only [aEnv, trOf_get, hl]
  have e2 : aOptV (aEnv (trOf l)) (some (.const (.int .i64 1))) = some (some (.int .i64 1)) := rfl
  have e3 : aOptV (aEnv (trOf l)) none = some none := rfl
  simp only [aOp, e1, e2, e3, h1 h, h2]
/-- A slice without room behind it. -/
theorem gen_clip {d5 d7 : Nat} (hu : P.underlying t = some (.slice el)) (hi : P.info? el = some f) (hl : lk l s = some (.slice (some ⟨k, o, none⟩) n c)) (h5 : lk l d5 = some (.int .i64 n)) (h7 : lk l d7 = some (.int .i64 n)) (hc : c < openB → n ≤ c) (hn : n < openB) (q : K (.slice (some ⟨k, o, none⟩) n n) h) :
    iStep P w (.gen (.slice t (.tmp s) none (some (.tmp d5)) (some (.tmp d7)))) l h K := by
  refine ⟨_, _, ?_, q⟩
  have h1 : aSlice P t (.slice (some ⟨k, o, none⟩) n c) none (some (.int .i64 n)) (some (.int .i64 n)) = some (.slice (some ⟨k, o, none⟩) n n) := by
    by_cases h : c < openB
    · simp [aSlice, hu, hi, natOf, h, hc h, Addr.add]
    · simp [aSlice, hu, hi, natOf, h, hn, Addr.add]
  have e1 : aEnv (trOf l) (.tmp s) = some (.slice (some ⟨k, o, none⟩) n c) := by simp only [aEnv, trOf_get, hl]
  have e2 : aOptV (aEnv (trOf l)) (some (.tmp d5)) = some (some (.int .i64 n)) := by simp only [aOptV, aEnv, trOf_get, h5]
  have e4 : aOptV (aEnv (trOf l)) (some (.tmp d7)) = some (some (.int .i64 n)) := by simp only [aOptV, aEnv, trOf_get, h7]
  have e3 : aOptV (aEnv (trOf l)) none = some none := rfl
  simp only [aOp, e1, e2, e3, e4, h1]
/-- A slice that has an element is not nil; the literal nil is. -/
theorem gen_nn {r : TypeId} (hu : P.underlying t = some (.slice el)) (hl : lk l s = some (.slice (some ⟨k, o, none⟩) n c)) (hn : n ≠ 0) (q : K (.bool true) h) :
    iStep P w (.gen (.binOp .neq t (.tmp s) (.const (.slice none 0 0)) r)) l h K := by
  refine ⟨_, _, ?_, q⟩
  have e1 : aEnv (trOf l) (.tmp s) = some (.slice (some ⟨k, o, none⟩) n c) := by simp only [aEnv, trOf_get, hl]
  have e2 : aEnv (trOf l) (.const (.slice none 0 0)) = some (.slice none 0 0) := rfl
  have e3 : aEq P t (.slice (some ⟨k, o, none⟩) n c) (.slice none 0 0) = some false := by simp [aEq, hu, isNil, hn]
  simp only [aOp, e1, e2, e3]
  rfl
theorem gen_ni {r : TypeId} (hp : pureRun P (do Go.eqGuard .neq t (.tmp s) (.const (.slice none 0 0)) (.slice none 0 0) (.slice none 0 0); Go.binOp .neq t (.slice none 0 0) (.slice none 0 0)) = some (.bool false)) (hl : lk l s = some (.slice none 0 0)) (q : K (.bool false) h) :
    iStep P w (.gen (.binOp .neq t (.tmp s) (.const (.slice none 0 0)) r)) l h K := by
  refine ⟨_, _, ?_, q⟩
  have e1 : aEnv (trOf l) (.tmp s) = some (.slice none 0 0) := by simp only [aEnv, trOf_get, hl]
  have e2 : aEnv (trOf l) (.const (.slice none 0 0)) = some (.slice none 0 0) := rfl
  have e3 : (noAddr (Value.slice none 0 0) && noAddr (Value.slice none 0 0)) = true := rfl
  simp only [aOp, e1, e2, e3, if_true, hp]
  rfl
end
/-- How a function ends that returns one of its own rows, with open room. -/
theorem end_own {P : Program} {rs : List ResultVar} {l : Fr} {L : List (Option AObj)} {k n b sz : Nat} {cs : List Value} (hk : b ≤ k) (hno : noAddrL cs = true) (hL : L[k]? = some (some (.cells ⟨cs, sz, true⟩))) (hr : resF P l (Hp b L) rs = some [.slice (some ⟨k, 0, none⟩) n openB]) :
    EndR P rs b [.cells ⟨cs, sz, true⟩] (.slice (some ⟨b, 0, none⟩) n openB) .ret l [] (Hp b L) := by
  refine ⟨by simp, rfl, [.slice (some ⟨k, 0, none⟩) n openB], [k], [], hr, rfl, by simp, by simpa using hk, (fun p hp => by cases hp), ?_, ?_, fun i o2 h => .inr ?_⟩
  · show _ = mvS .same ⟨(fun k' => if k' < b then k' else [k].getD (k' - b) 0) b, 0, none⟩ n openB
    simp [mvS]
    rfl
  · exact ⟨by simp, trivial⟩
  · match i, h with
    | 0, h =>
      cases h
      refine ⟨(by intro e; cases e), _, (by show (Hp b L).get k = _; rw [Hp_get, hL]; rfl), ?_⟩
      exact ⟨(mvL_noAddr _ _ _ hno).symm, okML_noAddr _ _ _ hno, fun e => e, fun e => ⟨e, rfl⟩⟩
end Go.Vm
