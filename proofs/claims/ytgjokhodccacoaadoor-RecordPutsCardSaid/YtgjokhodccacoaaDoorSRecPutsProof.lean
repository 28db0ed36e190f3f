/-
  RecordPuts holds, tied: for every number the law returns true.
  Conditions: the package-level variables start as the program's text lays them, which the card ties.
-/
import Derived.Test.YtgjokhodccacoaaDoorSRecP3
import Derived.Test.YtgjokhodccacoaaDoorSMe
import Derived.Test.YtgjokhodccacoaaDoorSRecLaid
import Derived.Test.YtgjokhodccacoaaDoorTie
import Derived.Test.YtgjokhodccacoaaDoorCards
import Derived.SevenTiedAt
import Derived.Test.YtgjokhodccacoaaDoorRows
import Derived.Test.YtgjokhodccacoaaDoorSOpn
import Derived.WalkKit
import Derived.ProofKit
import Derived.OpenShut
import Derived.ShutString
import Derived.ChangeOld
import Derived.Below
set_option linter.unusedSimpArgs false
set_option linter.unusedVariables false
namespace Go.Proofs.YtgjokhodccacoaaDoor
open Go.ChangeShapes Go.WideShapes Go.ChangeAt Go.RowKit Go.Vm

theorem rp_own : ownKnob Tryd.prog.godebug = none := by kernel_rfl
theorem rp_laidOut : laidOutB Tryd.prog = true := by kernel_rfl
theorem u_int : Tryd.prog.underlying 3 = some (.int .i64) := by kernel_rfl
theorem u_bool : Tryd.prog.underlying 4 = some .bool := by kernel_rfl

/-- The law, called in any world. -/
theorem rp_w (i0 : Int) (W : World) (ht : Tab W) (b0 : -9223372036854775808 ≤ i0 ∧ i0 ≤ 9223372036854775807) :
    Calls Tryd.prog 13 #[.int .i64 i0] W fun e W' => e = .returned (.bool true) ∧ Below W.heap.size W W' := by
  obtain ⟨φ, κ, R, hr⟩ := rows_entry ht [] (fun x hx => by
    cases hx)
  refine (putlaw_c i0).enter R ?_ ?_ rfl
  · intro x hx
    simp only [List.mem_cons, List.not_mem_nil, or_false] at hx
    rcases hx with rfl
    · exact ok_noAddr _ _ _ rfl
  · show (#[Vm.ren φ κ (.int .i64 i0)] : Array Value) = _
    simp only [ren_noAddr _ _ (Value.int .i64 i0) rfl]

set_option maxRecDepth 100000 in
theorem rp_lifted (os : Os) (started : os.Started) (H : Type) (enc : TypeId × Value → H) :
    ReturnsInHanded {} Tryd.checked os 13 .any (fun w args => (Rows.recordPutsSpec.pre enc Tryd.prog Tryd.f13 [] false w args ∧ laidMetH Tryd.prog laidR w) ∧ sizedMet enc Tryd.prog Tryd.f13 (OpenSpec.ofChange Rows.recordPutsSpec) false w args) (Rows.recordPutsSpec.post enc Tryd.prog Tryd.f13 false true false false) := by
  refine returnsInHanded_of_change_and (C := Tryd.checked) (X := fun w _ => laidMetH Tryd.prog laidR w) (fun _ _ _ hh h => h.of_heap hh) rp_own started (by kernel_rfl) Tryd.func13
    (ChangeSpec.witness_shaped (enc := enc) (C := Tryd.checked) (os := os) (X := fun w _ => laidMetH Tryd.prog laidR w) false (World.doorLaid Tryd.prog 400 os) #[.int .i64 0] 8 rfl (World.shaped_of_RefB (by kernel_rfl) (by kernel_rfl)) (by kernel_rfl) (by kernel_rfl) (by kernel_rfl) (door_met os _)) ?_
  intro W base args ds gs before hval0 hW _ _ hL _
  have hval : ∀ (j : Nat) t v, Tryd.f13.params[j]? = some t → args[j]? = some v → Value.okWide Tryd.prog W .any base t v := hval0
  have hW' := hW
  obtain ⟨p, q, hA0, hV, rfl, hfz, hnd⟩ := hW
  have hA : DataW.TrodAll enc Tryd.prog W 0 (fun _ => true) true Tryd.f13.params.toList args.toList ds p := hA0
  rw [Tryd.params13] at hA hval
  obtain ⟨v0, vs0, d0, ds0, p0, q0, hargs, rfl, rfl, g0, r0⟩ := trodAll_cons hA
  obtain ⟨rfl, rfl, rfl⟩ := trodAll_nil r0
  obtain rfl : args = #[v0] := by cases args; simp_all
  obtain ⟨rfl, rfl⟩ := trodVars_none hV
  have k0 := g0
  have lt0 : ∀ x ∈ p0, x.block < W.heap.size := by obtain ⟨m, hm⟩ := k0; exact DataW.trod_lt m _ _ _ hm
  obtain ⟨i0, rfl⟩ := okWide_int u_int (hval 0 3 v0 rfl rfl)
  obtain ⟨f0, hf0⟩ := g0
  obtain ⟨y0, hy0, hw0⟩ := (leaves_spec 9 3 _ (show leaves Tryd.prog 9 3 = some [3] by kernel_rfl) f0 _ _ hf0 0 _ rfl).int u_int
  simp only [Value.cells] at hy0
  obtain rfl : i0 = y0 := by simpa using hy0
  have b0 : -9223372036854775808 ≤ i0 ∧ i0 ≤ 9223372036854775807 := by simp [Lit.wf, IntKind.min, IntKind.max, IntKind.signed, IntKind.bits] at hw0; omega
  clear hA0 hval0
  refine (rp_w i0 W (tab_of_laid hL) b0).mono fun e W' ⟨he, bel⟩ => ?_
  subst he
  exact ⟨_, rfl, _, _, _, [], _, [], hW', trodAll_mk1 (shut_bool u_bool _), (trodAll_cons_mk (Below.trod rp_laidOut (by kernel_rfl) (of_decide_eq_true (by kernel_rfl)) k0 bel lt0) trodAll_mk0), rfl, bel.frame _, fun h => by cases h⟩

theorem rp_over : Rows.recordPutsRow.holds Tryd.pinned (OpenSpec.ofChange Rows.recordPutsSpec) :=
  OpenClaim.holds_of_wide 13 Tryd.f13 rfl rfl rfl rfl rfl rfl rfl ⟨rfl, rfl, rfl, rfl, rfl⟩ rfl rfl rfl rfl rfl (by kernel_rfl) Tryd.func13 (by kernel_rfl)
    (of_decide_eq_true (by kernel_rfl)) (by unfold Func.isWrapper; first | (rw [if_pos (by decide +kernel)]; kernel_rfl) | (rw [if_neg (by decide +kernel)]; exact ⟨rfl, rfl⟩))
    (fun os started H enc _ => rp_lifted os started H enc)

theorem recordPuts_holds : Rows.RecordPutsCardSaid :=
  Claim7.holds_tied_plain_at .later [] [.sentinel, .data] true (true, "e87fbf8d0569de18fdda475ebe8eff6b1cab71c00a2475e5fe16bbd14d38446e") true
    rp_over (fun _ h => by cases h) (by kernel_rfl) (fun _ h => by cases h) recordPuts_row_tie rfl ⟨rfl, rfl⟩ (by kernel_rfl) rfl
    (fun f fn hf hfn => by
      obtain rfl : f = 13 := Option.some.inj ((show Tryd.prog.funcNamed "boule/boulelaw06.RecordPuts" = some 13 by kernel_rfl).symm.trans hf) |>.symm
      obtain rfl : fn = Tryd.f13 := (Option.some.inj (Tryd.func13.symm.trans hfn)).symm
      exact ⟨by kernel_rfl, fun j t ht => by
        rw [Tryd.params13] at ht
        have hm : t ∈ [3] := by simpa using Array.mem_of_getElem? ht
        have hall : ([3].all fun u => !Tryd.prog.wantsStandIn u) = true := by kernel_rfl
        exact (show Tryd.prog.wantsStandIn t = false by simpa using List.all_eq_true.1 hall t hm)⟩)
    (by kernel_rfl)
end Go.Proofs.YtgjokhodccacoaaDoor
