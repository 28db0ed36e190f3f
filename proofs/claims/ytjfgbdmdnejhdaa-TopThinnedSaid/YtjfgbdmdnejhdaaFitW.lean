/-
  Chapter 10 at the top: closed runs with numbers that pass through; elements of arrays.
-/
import Derived.Test.YtjfgbdmdnejhdaaFitA
set_option linter.unusedSimpArgs false
set_option linter.unusedVariables false
namespace Go.Vm
open Go Go.RowKit
theorem Fc.plainRun {P : Program} {f : Nat} {args : List Value} {v : Value} {h1 : AH} (F : Fc P f args (Hp 1 [none]) v h1) (ha : noAddrL args = true) (hv : noAddr v = true) {h : AH} (hs : h.sees 0 = true) : Fc P f args h v h :=
  Fc.lift0 (Fc.gc (os := []) F rfl rfl [] [] rfl List.nodup_nil (fun s hs => by cases hs) (fun p hp => by cases hp) (mv_noAddr _ _ _ hv).symm (okM_noAddr _ _ _ hv) (fun i o2 ho => by cases ho)) ha hv hs
def sameS : Value → Value → Bool
  | .string a, .string b => decide (a = b)
  | a, b => sameV a b
theorem sameS_eq {a b : Value} (h : sameS a b = true) : a = b := by
  unfold sameS at h
  split at h
  · simp only [decide_eq_true_eq] at h; rw [h]
  · exact sameV_eq h
def sameSL : List Value → List Value → Bool
  | [], [] => true
  | a :: r, b :: s => sameS a b && sameSL r s
  | _, _ => false
theorem sameSL_eq : ∀ {a b : List Value}, sameSL a b = true → a = b
  | [], [], _ => rfl
  | a :: r, b :: s, h => by
    simp only [sameSL, Bool.and_eq_true] at h
    rw [sameS_eq h.1, sameSL_eq h.2]
  | [], _ :: _, h => by cases h
  | _ :: _, [], h => by cases h
def sameU : Value → Value → Bool
  | .agg a, .agg b => sameSL a.toList b.toList
  | .tuple a, .tuple b => sameSL a.toList b.toList
  | a, b => sameS a b
theorem sameU_eq {a b : Value} (h : sameU a b = true) : a = b := by
  unfold sameU at h
  split at h
  · rw [Array.toList_inj.1 (sameSL_eq h)]
  · rw [Array.toList_inj.1 (sameSL_eq h)]
  · exact sameS_eq h
def runV (r : Option (Value × AH)) (v : Value) : Bool := match r with
  | some (w, _) => sameU w v
  | none => false
theorem runV_ok {r : Option (Value × AH)} {v : Value} (h : runV r v = true) : ∃ h1, r = some (v, h1) := by
  unfold runV at h
  split at h
  · rename_i w h1
    exact ⟨h1, by rw [sameU_eq h]⟩
  · cases h
end Go.Vm
namespace Go.Vm
open Go Go.RowKit
section
variable {P : Program} {w : Bool} {t el : TypeId} {f : TypeInfo} {s k o n : Nat} {l : Fr} {h : AH} {K : Value → AH → Prop}
/-- An array as a slice. -/
theorem gen_arr (hu : P.underlying t = some (.array n el)) (hi : P.info? el = some f) (hl : lk l s = some (.pointer (some ⟨k, o, none⟩))) (hn : 0 < n) (hno : n < openB) (q : K (.slice (some ⟨k, o, none⟩) n n) h) : iStep P w (.gen (.slice t (.tmp s) none none none)) l h K := by
  refine ⟨_, _, ?_, q⟩
  have e1 : aEnv (trOf l) (.tmp s) = some (.pointer (some ⟨k, o, none⟩)) := by simp only [aEnv, trOf_get, hl]
  have e4 : aOptV (aEnv (trOf l)) none = some none := rfl
  have hv : aSlice P t (.pointer (some ⟨k, o, none⟩)) none none none = some (.slice (some ⟨k, o, none⟩) n n) := by
    have n1 : natOf none 0 = some 0 := rfl
    have n2 : natOf none n = some n := rfl
    simp only [aSlice, hu, hi, n1, n2]
    rw [if_pos ⟨Nat.zero_le _, Nat.le_refl _, Nat.le_refl _, rfl, hno⟩, if_neg (by omega), Nat.zero_mul, Nat.sub_zero]
    simp [Addr.add]
  simp only [aOp, e1, e4, hv]
end
end Go.Vm
namespace Go.Vm
open Go Go.RowKit
/-- An element of an array. -/
theorem gen_idx {P : Program} {w : Bool} {t : TypeId} {s d : Nat} {l : Fr} {h : AH} {K : Value → AH → Prop} {x i v : Value} (h1 : lk l s = some x) (h2 : lk l d = some i) (he : aIndex P t x i = some v) (q : K v h) : iStep P w (.gen (.index t (.tmp s) (.tmp d))) l h K := by
  refine ⟨_, _, ?_, q⟩
  have e1 : aEnv (trOf l) (.tmp s) = some x := by simp only [aEnv, trOf_get, h1]
  have e2 : aEnv (trOf l) (.tmp d) = some i := by simp only [aEnv, trOf_get, h2]
  simp only [aOp, e1, e2, he]
end Go.Vm
