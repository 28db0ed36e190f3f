/-
  Chapter 10 at the top: calls whose runs are closed, but for two small numbers.
-/
import Derived.Test.YtfbkbkgjmpbmaaaDoorTrKv
import Derived.Test.YtfbkbkgjmpbmaaaDoorMj
set_option linter.unusedSimpArgs false
set_option linter.unusedVariables false
namespace Go.Vm
open Go Go.RowKit
theorem Fc.plainRun {P : Program} {f : Nat} {args : List Value} {v : Value} {h1 : AH} (F : Fc P f args (Hp 1 [none]) v h1) (ha : noAddrL args = true) (hv : noAddr v = true) {h : AH} (hs : h.sees 0 = true) : Fc P f args h v h :=
  Fc.lift0 (Fc.gc (os := []) F rfl rfl [] [] rfl List.nodup_nil (fun s hs => by cases hs) (fun p hp => by cases hp) (mv_noAddr _ _ _ hv).symm (okM_noAddr _ _ _ hv) (fun i o2 ho => by cases ho)) ha hv hs
def sameS : Value → Value → Bool
  | .string a, .string b => decide (a = b)
  | a, b => sameV a b
theorem sameS_eq {a b : Value} (h : sameS a b = true) : a = b := by
  unfold sameS at h
  split at h
  · simp only [decide_eq_true_eq] at h; rw [h]
  · exact sameV_eq h
def sameSL : List Value → List Value → Bool
  | [], [] => true
  | a :: r, b :: s => sameS a b && sameSL r s
  | _, _ => false
theorem sameSL_eq : ∀ {a b : List Value}, sameSL a b = true → a = b
  | [], [], _ => rfl
  | a :: r, b :: s, h => by
    simp only [sameSL, Bool.and_eq_true] at h
    rw [sameS_eq h.1, sameSL_eq h.2]
  | [], _ :: _, h => by cases h
  | _ :: _, [], h => by cases h
def sameU : Value → Value → Bool
  | .agg a, .agg b => sameSL a.toList b.toList
  | .tuple a, .tuple b => sameSL a.toList b.toList
  | a, b => sameS a b
theorem sameU_eq {a b : Value} (h : sameU a b = true) : a = b := by
  unfold sameU at h
  split at h
  · rw [Array.toList_inj.1 (sameSL_eq h)]
  · rw [Array.toList_inj.1 (sameSL_eq h)]
  · exact sameS_eq h
def runV (r : Option (Value × AH)) (v : Value) : Bool := match r with
  | some (w, _) => sameU w v
  | none => false
theorem runV_ok {r : Option (Value × AH)} {v : Value} (h : runV r v = true) : ∃ h1, r = some (v, h1) := by
  unfold runV at h
  split at h
  · rename_i w h1
    exact ⟨h1, by rw [sameU_eq h]⟩
  · cases h
end Go.Vm
namespace Go.Proofs.YtfbkbkgjmpbmaaaDoor
open Go.RowKit Go.Vm
set_option maxRecDepth 1000000
def u8 (n : Nat) : Value := .int .u8 n
def gradeF (c w : Nat) : Nat := if c &&& w = c then 1 else if c &&& w = 0 then 3 else 2
theorem t_judge : ((List.range 32).all fun c => (List.range 32).all fun w => runV ((aRun Tryd.prog noHook 1000 20).fn 6 [u8 c, u8 w] (Hp 1 [none])) (.tuple #[u8 (gradeF c w), .int .i64 0])) = true := by kernel_rfl
def limL : List Value := [.int .i64 (-1000000000000000), .int .i64 1000000000000000, .int .i64 (-1000000000000000), .int .i64 1000000000000000, .int .i64 (-1000000000000000), .int .i64 1000000000000000, .int .i64 (-1000000000000000), .int .i64 1000000000000000, .int .i64 (-1000000000000000), .int .i64 1000000000000000, .int .i64 (-1000000000000000), .int .i64 1000000000000000]
def zerL : List Value := [.int .i64 0, .int .i64 0, .int .i64 0, .int .i64 0, .int .i64 0, .int .i64 0, .int .i64 0, .int .i64 0, .int .i64 0, .int .i64 0, .int .i64 0, .int .i64 0]
def gau : Value := .string ⟨#[103, 97, 117, 103, 101]⟩
def gauL : List Value := [gau, gau, gau, gau, gau, gau]
def specL (a : Nat) : List Value := limL ++ [u8 a]
def wafL (s : Nat) : List Value := zerL ++ u8 s :: gauL
theorem t_open : runV ((aRun Tryd.prog noHook 1000 20).fn 7 [] (Hp 1 [none])) (.agg ⟨specL 31⟩) = true := by kernel_rfl
theorem t_plain : runV ((aRun Tryd.prog noHook 1000 20).fn 8 [] (Hp 1 [none])) (.agg ⟨wafL 1⟩) = true := by kernel_rfl
theorem t_spec : ((List.range 32).all fun a => runV ((aRun Tryd.prog noHook 10000 20).fn 15 [.agg ⟨specL a⟩] (Hp 1 [none])) (.bool true)) = true := by kernel_rfl
end Go.Proofs.YtfbkbkgjmpbmaaaDoor
