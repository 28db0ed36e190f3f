/-
  Chapter 10 at the top: some region is always possible. No program in sight.
-/
import Derived.Test.YtfbkbkgjmpbmaaaDoorTrE
set_option linter.unusedSimpArgs false
set_option linter.unusedVariables false
namespace Go.Proofs.YtfbkbkgjmpbmaaaDoor
open Go.RowKit Go.Vm
def nb (bs : List Int) (i : Nat) : Int := bs.getD i 0
def lowB (bs : List Int) (k : Nat) : Int := if k = 0 then -1 else nb bs (2 * (k - 1))
def upB (bs : List Int) (k : Nat) : Int := if k < 4 then nb bs (2 * k + 1) else 1099511627776
def poss (sc : Int) (bs : List Int) (rl rh gl gh : Int) (k : Nat) : Prop := lowB bs k < upB bs k ∧ lowB bs k * gl < rh * sc ∧ rl * sc ≤ upB bs k * gh
instance (sc : Int) (bs : List Int) (rl rh gl gh : Int) (k : Nat) : Decidable (poss sc bs rl rh gl gh k) := by unfold poss; exact inferInstance
structure okM (sc : Int) (bs : List Int) : Prop where
  s1 : 1 ≤ sc
  s2 : sc ≤ 1000000
  el : ∀ i, i < 4 → 0 ≤ nb bs (2 * i) ∧ nb bs (2 * i) ≤ nb bs (2 * i + 1) ∧ nb bs (2 * i + 1) ≤ 1000000
  up : ∀ i, i < 3 → nb bs (2 * i) ≤ nb bs (2 * (i + 1)) ∧ nb bs (2 * i + 1) ≤ nb bs (2 * (i + 1) + 1)
structure okP (rl rh gl gh : Int) : Prop where
  r1 : 0 ≤ rl
  r2 : rl ≤ rh
  r3 : rh ≤ 1000000
  g1 : 1 ≤ gl
  g2 : gl ≤ gh
  g3 : gh ≤ 1000000
section
variable {sc rl rh gl gh : Int} {bs : List Int}
theorem low_bd (h : okM sc bs) {k : Nat} (hk : k < 5) : -1 ≤ lowB bs k ∧ lowB bs k ≤ 1000000 := by
  unfold lowB
  by_cases h0 : k = 0
  · rw [if_pos h0]; omega
  · rw [if_neg h0]
    have := h.el (k - 1) (by omega)
    omega
theorem up_bd (h : okM sc bs) {k : Nat} (hk : k < 5) : 0 ≤ upB bs k ∧ upB bs k ≤ 1099511627776 := by
  unfold upB
  by_cases h0 : k < 4
  · rw [if_pos h0]
    have := h.el k h0
    omega
  · rw [if_neg h0]; omega
theorem mul_bd {a b A B : Int} (h1 : 0 ≤ a) (h2 : a ≤ A) (h3 : 0 ≤ b) (h4 : b ≤ B) : 0 ≤ a * b ∧ a * b ≤ A * B := ⟨Int.mul_nonneg h1 h3, Int.mul_le_mul h2 h4 h3 (by omega)⟩
theorem mul_lo {a b : Int} (h1 : -1 ≤ a) (h2 : a ≤ 1000000) (h3 : 1 ≤ b) (h4 : b ≤ 1000000) : -1000000 ≤ a * b ∧ a * b ≤ 1000000000000 := by
  rcases Int.lt_or_le a 0 with h | h
  · obtain rfl : a = -1 := by omega
    omega
  · have := mul_bd h h2 (by omega) h4
    omega
/-- Some region is possible. -/
theorem some_poss (M : okM sc bs) (P : okP rl rh gl gh) : ∃ k, k < 5 ∧ poss sc bs rl rh gl gh k := by
  have hX := mul_bd (a := rl) (b := sc) P.r1 (Int.le_trans P.r2 P.r3) (by have := M.s1; omega) M.s2
  have hY : rl * sc ≤ rh * sc := Int.mul_le_mul_of_nonneg_right P.r2 (by have := M.s1; omega)
  have key : ∀ k, k < 5 → (k ≠ 0 → upB bs (k - 1) * gh < rl * sc) → rl * sc ≤ upB bs k * gh → poss sc bs rl rh gl gh k := by
    intro k hk h1 h2
    by_cases h0 : k = 0
    · subst h0
      have hu := up_bd M hk
      have hg := P.g1
      have e : lowB bs 0 = -1 := rfl
      refine ⟨by rw [e]; omega, ?_, h2⟩
      rw [e]
      omega
    · have h3 := h1 h0
      have hu : upB bs (k - 1) = nb bs (2 * (k - 1) + 1) := if_pos (by omega)
      have hl : lowB bs k = nb bs (2 * (k - 1)) := if_neg h0
      have he := M.el (k - 1) (by omega)
      have hg1 := P.g1
      have hg2 := P.g2
      rw [hu] at h3
      have a1 : nb bs (2 * (k - 1)) * gl ≤ nb bs (2 * (k - 1) + 1) * gh := Int.mul_le_mul he.2.1 hg2 (by omega) (by omega)
      refine ⟨?_, by rw [hl]; omega, h2⟩
      rw [hl]
      rcases Int.lt_or_le (nb bs (2 * (k - 1))) (upB bs k) with h | h
      · exact h
      · exfalso
        have a2 : upB bs k * gh ≤ nb bs (2 * (k - 1) + 1) * gh := Int.mul_le_mul_of_nonneg_right (by omega) (by omega)
        omega
  have h4 : rl * sc ≤ upB bs 4 * gh := by
    have e : upB bs 4 = 1099511627776 := rfl
    rw [e]
    have := P.g1
    have := P.g2
    omega
  by_cases c0 : rl * sc ≤ upB bs 0 * gh
  · exact ⟨0, by decide, key 0 (by decide) (fun h => absurd rfl h) c0⟩
  by_cases c1 : rl * sc ≤ upB bs 1 * gh
  · exact ⟨1, by decide, key 1 (by decide) (fun _ => by show upB bs 0 * gh < _; omega) c1⟩
  by_cases c2 : rl * sc ≤ upB bs 2 * gh
  · exact ⟨2, by decide, key 2 (by decide) (fun _ => by show upB bs 1 * gh < _; omega) c2⟩
  by_cases c3 : rl * sc ≤ upB bs 3 * gh
  · exact ⟨3, by decide, key 3 (by decide) (fun _ => by show upB bs 2 * gh < _; omega) c3⟩
  · exact ⟨4, by decide, key 4 (by decide) (fun _ => by show upB bs 3 * gh < _; omega) h4⟩
end
/-- The set of the regions up to one. -/
def setN (p : Nat → Bool) : Nat → Nat
  | 0 => 0
  | k + 1 => if p k then setN p k ||| 2 ^ k else setN p k
theorem setN_lt (p : Nat → Bool) : ∀ k, setN p k < 2 ^ k
  | 0 => (by decide : 0 < 1)
  | k + 1 => by
    have ih := setN_lt p k
    unfold setN
    have h2 : 2 ^ k < 2 ^ (k + 1) := Nat.pow_lt_pow_right (by decide) (Nat.lt_succ_self k)
    by_cases h : p k = true
    · rw [if_pos h]
      exact Nat.or_lt_two_pow (by omega) h2
    · rw [if_neg h]
      omega
theorem setN_pos {p : Nat → Bool} : ∀ {k j : Nat}, j < k → p j = true → 1 ≤ setN p k
  | 0, j, h, _ => absurd h (Nat.not_lt_zero _)
  | k + 1, j, h, hp => by
    unfold setN
    by_cases hk : p k = true
    · rw [if_pos hk]
      have : 2 ^ k ≤ setN p k ||| 2 ^ k := Nat.right_le_or
      have h1 : 1 ≤ 2 ^ k := Nat.one_le_two_pow
      omega
    · rw [if_neg hk]
      have : j ≠ k := fun e => hk (e ▸ hp)
      exact setN_pos (by omega) hp
end Go.Proofs.YtfbkbkgjmpbmaaaDoor
