/-
  TopBows holds: for every stiffness, feed, tension and greatest bow the law returns true, and its argument stays as it is.
  Conditions: none.
-/
import Derived.Test.YtlhhkmkclmedgaaBowE
import Derived.Test.YtlhhkmkclmedgaaMe
import Derived.Test.YtlhhkmkclmedgaaRows
import Derived.Test.YtlhhkmkclmedgaaOpn
import Derived.WalkKit
import Derived.ProofKit
import Derived.OpenShut
import Derived.ShutString
import Derived.ChangeOld
import Derived.Below
set_option linter.unusedSimpArgs false
set_option linter.unusedVariables false
namespace Go.Proofs.Ytlhhkmkclmedgaa
open Go.ChangeShapes Go.WideShapes Go.ChangeAt Go.RowKit Go.Vm

theorem tb_own : ownKnob Try.prog.godebug = none := by kernel_rfl
theorem tb_laidOut : laidOutB Try.prog = true := by kernel_rfl
theorem u_int : Try.prog.underlying 3 = some (.int .i64) := by kernel_rfl
theorem u_bool : Try.prog.underlying 4 = some .bool := by kernel_rfl
theorem tb_list5 {l : List Value} {a0 : Value} {a1 : Value} {a2 : Value} {a3 : Value} {a4 : Value} (h : l.length = 5) (h0 : l[0]? = some a0) (h1 : l[1]? = some a1) (h2 : l[2]? = some a2) (h3 : l[3]? = some a3) (h4 : l[4]? = some a4) : l = [a0, a1, a2, a3, a4] := by
  match l, h with
  | [_, _, _, _, _], _ =>
    simp at h0 h1 h2 h3 h4
    subst h0 h1 h2 h3 h4
    rfl

/-- The law, called in any world. -/
theorem tb_w (i0 : Int) (i1 : Int) (i2 : Int) (i3 : Int) (i4 : Int) (W : World) (b0 : -9223372036854775808 ≤ i0 ∧ i0 ≤ 9223372036854775807) (b1 : -9223372036854775808 ≤ i1 ∧ i1 ≤ 9223372036854775807) (b2 : -9223372036854775808 ≤ i2 ∧ i2 ≤ 9223372036854775807) (b3 : -9223372036854775808 ≤ i3 ∧ i3 ≤ 9223372036854775807) (b4 : -9223372036854775808 ≤ i4 ∧ i4 ≤ 9223372036854775807) :
    Calls Try.prog 4 #[.agg #[.int .i64 i0, .int .i64 i1, .int .i64 i2, .int .i64 i3, .int .i64 i4]] W fun e W' => e = .returned (.bool true) ∧ Below W.heap.size W W' := by
  obtain ⟨φ, κ, R, hr⟩ := rows_entry [] (fun x hx => by
    cases hx)
  refine (bows_c i0 i1 i2 i3 i4).enter R ?_ ?_ rfl
  · intro x hx
    simp only [List.mem_cons, List.not_mem_nil, or_false] at hx
    rcases hx with rfl
    · exact ok_noAddr _ _ _ rfl
  · show (#[.agg #[Vm.ren φ κ (.int .i64 i0), Vm.ren φ κ (.int .i64 i1), Vm.ren φ κ (.int .i64 i2), Vm.ren φ κ (.int .i64 i3), Vm.ren φ κ (.int .i64 i4)]] : Array Value) = _
    simp only [ren_noAddr _ _ (Value.int .i64 i0) rfl, ren_noAddr _ _ (Value.int .i64 i1) rfl, ren_noAddr _ _ (Value.int .i64 i2) rfl, ren_noAddr _ _ (Value.int .i64 i3) rfl, ren_noAddr _ _ (Value.int .i64 i4) rfl]

set_option maxRecDepth 100000 in
theorem tb_lifted (os : Os) (started : os.Started) (H : Type) (enc : TypeId × Value → H) :
    ReturnsInHanded {} Try.checked os 4 .any (Rows.topBowsSpec.pre6 enc Try.prog Try.f4 Rows.topBowsRow.domain false) (Rows.topBowsSpec.post enc Try.prog Try.f4 false true false false) := by
  refine returnsInHanded_of_change (C := Try.checked) tb_own started (by kernel_rfl) Try.func4
    (ChangeSpec.witness6 (enc := enc) (C := Try.checked) false ⟨#[], #[.agg #[.int .i64 0, .int .i64 0, .int .i64 0, .int .i64 0, .int .i64 0]], []⟩ 8 (by kernel_rfl) (by kernel_rfl) (by kernel_rfl) (by kernel_rfl)) ?_
  intro W base args ds gs before hval0 hW hcnd _
  have hval : ∀ (j : Nat) t v, Try.f4.params[j]? = some t → args[j]? = some v → Value.okWide Try.prog W .any base t v := hval0
  have hW' := hW
  obtain ⟨p, q, hA0, hV, rfl, hfz, hnd⟩ := hW
  have hA : DataW.TrodAll enc Try.prog W 0 (fun _ => true) true Try.f4.params.toList args.toList ds p := hA0
  rw [Try.params4] at hA hval
  obtain ⟨v0, vs0, d0, ds0, p0, q0, hargs, rfl, rfl, g0, r0⟩ := trodAll_cons hA
  obtain ⟨rfl, rfl, rfl⟩ := trodAll_nil r0
  obtain rfl : args = #[v0] := by cases args; simp_all
  obtain ⟨rfl, rfl⟩ := trodVars_none hV
  have k0 := g0
  have lt0 : ∀ x ∈ p0, x.block < W.heap.size := by obtain ⟨m, hm⟩ := k0; exact DataW.trod_lt m _ _ _ hm
  obtain ⟨cs0, rfl, hz0⟩ := okWide_struct Try.underlying46 (hval 0 46 v0 rfl rfl)
  obtain ⟨cl0⟩ := cs0
  obtain ⟨f0, hf0⟩ := g0
  have L0 := leaves_spec 9 46 _ (show leaves Try.prog 9 46 = some [3, 3, 3, 3, 3] by kernel_rfl) f0 _ _ hf0
  have hcl0 : cl0.length = 5 := by
    rw [show Try.prog.cellsOf 46 = 5 by kernel_rfl] at hz0
    simpa using hz0
  obtain ⟨i0, hi0, hw0⟩ := (L0 0 _ rfl).int u_int
  obtain ⟨i1, hi1, hw1⟩ := (L0 1 _ rfl).int u_int
  obtain ⟨i2, hi2, hw2⟩ := (L0 2 _ rfl).int u_int
  obtain ⟨i3, hi3, hw3⟩ := (L0 3 _ rfl).int u_int
  obtain ⟨i4, hi4, hw4⟩ := (L0 4 _ rfl).int u_int
  simp only [Value.cells] at hi0 hi1 hi2 hi3 hi4
  have b0 : -9223372036854775808 ≤ i0 ∧ i0 ≤ 9223372036854775807 := by simp [Lit.wf, IntKind.min, IntKind.max, IntKind.signed, IntKind.bits] at hw0; omega
  have b1 : -9223372036854775808 ≤ i1 ∧ i1 ≤ 9223372036854775807 := by simp [Lit.wf, IntKind.min, IntKind.max, IntKind.signed, IntKind.bits] at hw1; omega
  have b2 : -9223372036854775808 ≤ i2 ∧ i2 ≤ 9223372036854775807 := by simp [Lit.wf, IntKind.min, IntKind.max, IntKind.signed, IntKind.bits] at hw2; omega
  have b3 : -9223372036854775808 ≤ i3 ∧ i3 ≤ 9223372036854775807 := by simp [Lit.wf, IntKind.min, IntKind.max, IntKind.signed, IntKind.bits] at hw3; omega
  have b4 : -9223372036854775808 ≤ i4 ∧ i4 ≤ 9223372036854775807 := by simp [Lit.wf, IntKind.min, IntKind.max, IntKind.signed, IntKind.bits] at hw4; omega
  have hcs0 := tb_list5 hcl0 hi0 hi1 hi2 hi3 hi4
  subst hcs0
  clear hA0 hval0
  refine (tb_w i0 i1 i2 i3 i4 W b0 b1 b2 b3 b4).mono fun e W' ⟨he, bel⟩ => ?_
  subst he
  exact ⟨_, rfl, _, _, _, [], _, [], hW', trodAll_mk1 (shut_bool u_bool _), (trodAll_cons_mk (Below.trod tb_laidOut (by kernel_rfl) (of_decide_eq_true (by kernel_rfl)) k0 bel lt0) trodAll_mk0), rfl, bel.frame _, fun h => by cases h⟩

theorem tb_over : Rows.topBowsRow.holds Try.pinned (OpenSpec.ofChange Rows.topBowsSpec) :=
  OpenClaim.holds_of_wide 4 Try.f4 rfl rfl rfl rfl rfl rfl rfl ⟨rfl, rfl, rfl, rfl, rfl⟩ rfl rfl rfl rfl rfl (by kernel_rfl) Try.func4 (by kernel_rfl)
    (of_decide_eq_true (by kernel_rfl)) (by unfold Func.isWrapper; first | (rw [if_pos (by decide +kernel)]; kernel_rfl) | (rw [if_neg (by decide +kernel)]; exact ⟨rfl, rfl⟩))
    (fun os started H enc _ => tb_lifted os started H enc)

theorem topBows_holds : Rows.TopBowsSaid := tb_over
end Go.Proofs.Ytlhhkmkclmedgaa
