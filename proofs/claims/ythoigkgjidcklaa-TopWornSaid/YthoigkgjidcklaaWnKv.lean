/-
  Chapter 1 at the top: wide.cmp, whose Sub64 the model stands in for; a hook of it for the machine for closed runs.
-/
import Derived.Test.YthoigkgjidcklaaFitKv
import Derived.Test.YthoigkgjidcklaaApp
import Derived.BigQuiet
import Derived.Deep.QuietTactic
import Derived.Deep.RegionHeld3
import Derived.Deep.RegionLaw
import Derived.Laws.Bits64b
import Derived.IntWalk
import Derived.Shelf.Spec.BitsCarry
import Derived.Lib.Hide
set_option linter.unusedSimpArgs false
set_option linter.unusedVariables false
namespace Go.Proofs.Ythoigkgjidcklaa
open Go.RowKit
/-- How two numbers compare. -/
def cmpI (x y : Int) : Int := if x < y then -1 else if x = y then 0 else 1

theorem sub64_nat (x y b : Nat) (hb : b ≤ 1) (w : World) : (callFunc 136 #[.int .u64 x, .int .u64 y, .int .u64 b]).run Try.prog w =
    .ok (.value (.tuple #[.int .u64 (((x + 18446744073709551616 - y - b) % 18446744073709551616 : Nat) : Int), .int .u64 ((if x < y + b then 1 else 0 : Nat) : Int)])) w := by
  rw [run_callFunc_extern Try.func136 (by kernel_rfl) (by kernel_rfl) (by kernel_rfl) (e := sub64Entry) (by kernel_rfl), run_sub64 x y b hb]
  rfl
theorem sub64_lt (x y : Int) (hx : 0 ≤ x) (hy : x < y) : ∃ d : Int, ∀ w, (callFunc 136 #[.int .u64 x, .int .u64 y, .int .u64 0]).run Try.prog w = .ok (.value (.tuple #[.int .u64 d, .int .u64 1])) w := by
  obtain ⟨x, rfl⟩ := Int.eq_ofNat_of_zero_le hx
  obtain ⟨y, rfl⟩ := Int.eq_ofNat_of_zero_le (by omega : 0 ≤ y)
  refine ⟨(((x + 18446744073709551616 - y - 0) % 18446744073709551616 : Nat) : Int), fun w => ?_⟩
  have h := sub64_nat x y 0 (by omega) w
  rw [if_pos (by omega)] at h
  exact h
theorem sub64_ge (x y : Int) (hy : 0 ≤ y) (hx : y ≤ x) : ∃ d : Int, ∀ w, (callFunc 136 #[.int .u64 x, .int .u64 y, .int .u64 0]).run Try.prog w = .ok (.value (.tuple #[.int .u64 d, .int .u64 0])) w := by
  obtain ⟨x, rfl⟩ := Int.eq_ofNat_of_zero_le (by omega : 0 ≤ x)
  obtain ⟨y, rfl⟩ := Int.eq_ofNat_of_zero_le hy
  refine ⟨(((x + 18446744073709551616 - y - 0) % 18446744073709551616 : Nat) : Int), fun w => ?_⟩
  have h := sub64_nat x y 0 (by omega) w
  rw [if_neg (by omega)] at h
  exact h
theorem sub64_one : ∃ d : Int, ∀ w, (callFunc 136 #[.int .u64 0, .int .u64 0, .int .u64 1]).run Try.prog w = .ok (.value (.tuple #[.int .u64 d, .int .u64 1])) w :=
  ⟨_, fun w => sub64_nat 0 0 1 (by omega) w⟩
theorem sub64_zero : ∃ d : Int, ∀ w, (callFunc 136 #[.int .u64 0, .int .u64 0, .int .u64 0]).run Try.prog w = .ok (.value (.tuple #[.int .u64 d, .int .u64 0])) w :=
  ⟨_, fun w => sub64_nat 0 0 0 (by omega) w⟩

set_option maxHeartbeats 1000000 in
theorem wcmp_any (x y : Int) (hx : 0 ≤ x) (hy : 0 ≤ y) (w : World) :
    Calls Try.prog 133 #[.agg #[.int .u64 0, .int .u64 x, .bool false], .agg #[.int .u64 0, .int .u64 y, .bool false]] w fun e w' => e = .returned (.int .i64 (cmpI x y)) ∧ Below w.heap.size w w' := by
  rcases Int.lt_trichotomy x y with hlt | rfl | hgt
  · have HR := Lib.hid (show cmpI x y = -1 by simp [cmpI, hlt])
    obtain ⟨d, hd⟩ := sub64_lt x y hx hlt
    obtain ⟨d2, hd2⟩ := sub64_one
    have hne : ¬ x = y := by omega
    go_enter Try.func133, Try.ntmps133
    go_wp2_with (first | simp only [hd] | simp only [hd2])
    go_ret
    exact ⟨ret_int HR.out.symm, ((Below.refl _ _).alloc (Nat.le_refl _) _).alloc (by simp) _⟩
  · have HR := Lib.hid (show cmpI x x = 0 by simp [cmpI])
    obtain ⟨d, hd⟩ := sub64_ge x x hx (Int.le_refl _)
    obtain ⟨d2, hd2⟩ := sub64_zero
    go_enter Try.func133, Try.ntmps133
    go_wp2_with (first | simp only [hd] | simp only [hd2])
    go_ret
    exact ⟨ret_int HR.out.symm, ((Below.refl _ _).alloc (Nat.le_refl _) _).alloc (by simp) _⟩
  · have HR := Lib.hid (show cmpI x y = 1 by unfold cmpI; rw [if_neg (by omega), if_neg (by omega)])
    obtain ⟨d, hd⟩ := sub64_ge x y hy (by omega)
    obtain ⟨d2, hd2⟩ := sub64_zero
    have hne : ¬ x = y := by omega
    go_enter Try.func133, Try.ntmps133
    go_wp2_with (first | simp only [hd] | simp only [hd2])
    go_ret
    exact ⟨ret_int HR.out.symm, ((Below.refl _ _).alloc (Nat.le_refl _) _).alloc (by simp) _⟩

end Go.Proofs.Ythoigkgjidcklaa
namespace Go.Proofs.Ythoigkgjidcklaa
open Go.RowKit Go.Vm
def cmpG (args : List Value) (h : AH) : Option (Value × AH) := match args with
  | [.agg ⟨[.int .u64 a, .int .u64 x, .bool false]⟩, .agg ⟨[.int .u64 b, .int .u64 y, .bool false]⟩] => if a = 0 ∧ b = 0 ∧ 0 ≤ x ∧ 0 ≤ y then some (.int .i64 (cmpI x y), h) else none
  | _ => none
theorem cmpG_some {args : List Value} {h : AH} {v : Value} {h' : AH} (e : cmpG args h = some (v, h')) : ∃ x y : Int, 0 ≤ x ∧ 0 ≤ y ∧ args = [.agg ⟨[.int .u64 0, .int .u64 x, .bool false]⟩, .agg ⟨[.int .u64 0, .int .u64 y, .bool false]⟩] ∧ v = .int .i64 (cmpI x y) ∧ h' = h := by
  unfold cmpG at e
  split at e
  · split at e
    · rename_i a x b y hc
      obtain ⟨rfl, rfl, hx, hy⟩ := hc
      injection e with e
      injection e with e1 e2
      exact ⟨x, y, hx, hy, rfl, e1.symm, e2.symm⟩
    · cases e
  · cases e
def cmpHook : Hook := fun f => if f = 133 then some cmpG else none
theorem cmpHook_some {f : Nat} {args : List Value} {h : AH} {v : Value} {h' : AH} (e : hookFn cmpHook f args h = some (v, h')) : f = 133 ∧ cmpG args h = some (v, h') := by
  unfold hookFn cmpHook at e
  by_cases c : f = 133
  · rw [if_pos c] at e
    exact ⟨c, e⟩
  · rw [if_neg c] at e
    cases e
theorem cmpHook_ok : HookOk Try.prog cmpHook := by
  refine ⟨fun f args h v h' _ e => ?_, fun f args h v h' e => ?_, fun f args h v h' e w0 φ κ w R ha => ?_⟩
  · obtain ⟨rfl, e⟩ := cmpHook_some e
    obtain ⟨x, y, hx, hy, rfl, rfl, rfl⟩ := cmpG_some e
    exact Grow.refl _
  · obtain ⟨rfl, e⟩ := cmpHook_some e
    exact ⟨_, _, Try.func133, rfl⟩
  · obtain ⟨rfl, e⟩ := cmpHook_some e
    obtain ⟨x, y, hx, hy, rfl, rfl, rfl⟩ := cmpG_some e
    exact (wcmp_any x y hx hy w).mono fun en w' ⟨h1, h2⟩ => ⟨φ, κ, h1, R.under h2, ok_noAddr _ _ _ rfl⟩
set_option maxRecDepth 1000000 in
theorem t_works11 : isTrue ((aRun Try.prog cmpHook 1000000 50).fn 18 [] h00) = true := by kernel_rfl
/-- works11() returns true, whatever the world is. -/
theorem works11_any (w : World) : Calls Try.prog 18 #[] w fun e w' => e = .returned (.bool true) ∧ Below w.heap.size w w' := calls_true v_mixed v_names cmpHook_ok t_works11 w
theorem works11_f {h : AH} : Fc Try.prog 18 [] h (.bool true) h :=
  Fc.ofPlain rfl ⟨_, _, Try.func18, rfl⟩ fun w0 φ κ w R ha => works11_any w
end Go.Proofs.Ythoigkgjidcklaa
