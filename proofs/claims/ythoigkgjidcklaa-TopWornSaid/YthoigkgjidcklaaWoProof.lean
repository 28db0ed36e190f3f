/-
  TopWorn holds: for every list of wear, life and list of runs the law returns true, and its arguments stay as they are.
  Conditions: none.
-/
import Derived.Test.YthoigkgjidcklaaWoL
import Derived.Test.YthoigkgjidcklaaRows
import Derived.Test.YthoigkgjidcklaaOpn
import Derived.WalkKit
import Derived.ProofKit
import Derived.OpenShut
import Derived.ShutString
import Derived.ChangeOld
import Derived.Below
set_option linter.unusedSimpArgs false
set_option linter.unusedVariables false
namespace Go.Proofs.Ythoigkgjidcklaa
open Go.ChangeShapes Go.WideShapes Go.ChangeAt Go.RowKit Go.Vm

theorem wo_own : ownKnob Try.prog.godebug = none := by kernel_rfl
theorem wo_laidOut : laidOutB Try.prog = true := by kernel_rfl
theorem u_u8 : Try.prog.underlying 5 = some (.int .u8) := by kernel_rfl
theorem u_bool : Try.prog.underlying 4 = some .bool := by kernel_rfl
def mkI (l : List Int) : Int := l.getD 0 0
theorem mkY_enc (l : List Int) (h : l.length = 1) : eY (mkI l) = l.map (Value.int .u8) := by
  match l, h with
  | [_], _ => rfl
theorem mkY_wf (l : List Int) (h : l.length = 1) (hw : ∀ z ∈ l, (Lit.int .u8 z).wf = true) : 0 ≤ mkI l ∧ mkI l ≤ 255 := by
  match l, h, hw with
  | [a], _, hw =>
    have := hw a (by simp)
    simp [Lit.wf, IntKind.min, IntKind.max, IntKind.signed, IntKind.bits] at this
    show 0 ≤ a ∧ a ≤ 255
    omega

/-- The law, called in any world. -/
theorem wo_w (A0 : Option Addr) (n0 c0 : Nat) (l0 : List Int) (A1 : Option Addr) (n1 c1 : Nat) (l1 : List Int) (i0 : Int) (W : World) (hn0 : l0.length = n0) (r0 : Row W A0 n0 c0 (rows eY l0)) (w0 : ∀ x ∈ l0, 0 ≤ x ∧ x ≤ 255) (hn1 : l1.length = n1) (r1 : Row W A1 n1 c1 (rows eY l1)) (w1 : ∀ x ∈ l1, 0 ≤ x ∧ x ≤ 255) (b0 : 0 ≤ i0 ∧ i0 ≤ 255) :
    Calls Try.prog 5 #[.slice A0 n0 c0, .int .u8 i0, .slice A1 n1 c1] W fun e W' => e = .returned (.bool true) ∧ Below W.heap.size W W' := by
  obtain ⟨φ, κ, R, hr⟩ := rows_entry [(A0, n0, c0, rows eY l0), (A1, n1, c1, rows eY l1)] (fun x hx => by
    simp only [List.mem_cons, List.not_mem_nil, or_false] at hx
    rcases hx with rfl | rfl
    · exact ⟨r0, no_all (rows_no (f := eY) l0)⟩
    · exact ⟨r1, no_all (rows_no (f := eY) l1)⟩)
  obtain ⟨e0, o0⟩ := hr 0 _ rfl
  obtain ⟨e1, o1⟩ := hr 1 _ rfl
  simp only [List.length_cons, List.length_nil, List.map_cons, List.map_nil, Nat.reduceAdd] at e0 o0 e1 o1
  refine (worn_law n0 c0 n1 c1 l0 l1 i0 hn0 hn1 b0 w0 w1).enter R ?_ ?_ rfl
  · intro x hx
    simp only [List.mem_cons, List.not_mem_nil, or_false] at hx
    rcases hx with rfl | rfl | rfl
    · exact o0
    · exact ok_noAddr _ _ _ rfl
    · exact o1
  · show (#[Vm.ren φ κ (.slice (some ⟨1, 0, none⟩) n0 c0), Vm.ren φ κ (.int .u8 i0), Vm.ren φ κ (.slice (some ⟨2, 0, none⟩) n1 c1)] : Array Value) = _
    simp only [e0, e1, ren_noAddr _ _ (Value.int .u8 i0) rfl]

set_option maxRecDepth 100000 in
theorem wo_lifted (os : Os) (started : os.Started) (H : Type) (enc : TypeId × Value → H) :
    ReturnsInHanded {} Try.checked os 5 .any (Rows.topWornSpec.pre6 enc Try.prog Try.f5 Rows.topWornRow.domain false) (Rows.topWornSpec.post enc Try.prog Try.f5 false true false false) := by
  refine returnsInHanded_of_change (C := Try.checked) wo_own started (by kernel_rfl) Try.func5
    (ChangeSpec.witness6 (enc := enc) (C := Try.checked) false ⟨#[], #[.slice none 0 0, .int .u8 0, .slice none 0 0], []⟩ 8 (by kernel_rfl) (by kernel_rfl) (by kernel_rfl) (by kernel_rfl)) ?_
  intro W base args ds gs before hval0 hW hcnd _
  have hval : ∀ (j : Nat) t v, Try.f5.params[j]? = some t → args[j]? = some v → Value.okWide Try.prog W .any base t v := hval0
  have hW' := hW
  obtain ⟨p, q, hA0, hV, rfl, hfz, hnd⟩ := hW
  have hA : DataW.TrodAll enc Try.prog W 0 (fun _ => true) true Try.f5.params.toList args.toList ds p := hA0
  rw [Try.params5] at hA hval
  obtain ⟨v0, vs0, d0, ds0, p0, q0, hargs, rfl, rfl, g0, r0⟩ := trodAll_cons hA
  obtain ⟨v1, vs1, d1, ds1, p1, q1, rfl, rfl, rfl, g1, r1⟩ := trodAll_cons r0
  obtain ⟨v2, vs2, d2, ds2, p2, q2, rfl, rfl, rfl, g2, r2⟩ := trodAll_cons r1
  obtain ⟨rfl, rfl, rfl⟩ := trodAll_nil r2
  obtain rfl : args = #[v0, v1, v2] := by cases args; simp_all
  obtain ⟨rfl, rfl⟩ := trodVars_none hV
  have k0 := g0
  have lt0 : ∀ x ∈ p0, x.block < W.heap.size := by obtain ⟨m, hm⟩ := k0; exact DataW.trod_lt m _ _ _ hm
  have k1 := g1
  have lt1 : ∀ x ∈ p1, x.block < W.heap.size := by obtain ⟨m, hm⟩ := k1; exact DataW.trod_lt m _ _ _ hm
  have k2 := g2
  have lt2 : ∀ x ∈ p2, x.block < W.heap.size := by obtain ⟨m, hm⟩ := k2; exact DataW.trod_lt m _ _ _ hm
  obtain ⟨A0, n0, c0, rfl⟩ := okWide_slice Try.underlying58 (hval 0 58 v0 rfl rfl)
  obtain ⟨f0, hf0⟩ := g0
  obtain ⟨B0, m0, d0', l0, he0, hn0, hr0, hcp0, hx0⟩ := Row.of_trod mkI mkY_enc (f := 9) (ls := [5]) Try.underlying58 (by kernel_rfl) rfl (by omega) (by kernel_rfl) (fun lt hlt => by simp at hlt; subst hlt; exact u_u8) (by simpa [Value.cells] using hf0)
  have he0' : Value.slice A0 n0 c0 = .slice B0 m0 d0' := by simpa using he0
  injection he0' with x1 x2 x3
  subst x1 x2 x3
  have w0 : ∀ x ∈ l0, 0 ≤ x ∧ x ≤ 255 := fun x hx => by
    obtain ⟨z, hz, rfl, hw⟩ := hx0 x hx
    exact mkY_wf z hz hw
  obtain ⟨i0, rfl⟩ := okWide_int u_u8 (hval 1 5 v1 rfl rfl)
  obtain ⟨f1, hf1⟩ := g1
  obtain ⟨y0, hy0, hw0⟩ := (leaves_spec 9 5 _ (show leaves Try.prog 9 5 = some [5] by kernel_rfl) f1 _ _ hf1 0 _ rfl).int u_u8
  simp only [Value.cells] at hy0
  obtain rfl : i0 = y0 := by simpa using hy0
  have b0 : 0 ≤ i0 ∧ i0 ≤ 255 := by simp [Lit.wf, IntKind.min, IntKind.max, IntKind.signed, IntKind.bits] at hw0; omega
  obtain ⟨A1, n1, c1, rfl⟩ := okWide_slice Try.underlying58 (hval 2 58 v2 rfl rfl)
  obtain ⟨f2, hf2⟩ := g2
  obtain ⟨B1, m1, d1', l1, he1, hn1, hr1, hcp1, hx1⟩ := Row.of_trod mkI mkY_enc (f := 9) (ls := [5]) Try.underlying58 (by kernel_rfl) rfl (by omega) (by kernel_rfl) (fun lt hlt => by simp at hlt; subst hlt; exact u_u8) (by simpa [Value.cells] using hf2)
  have he1' : Value.slice A1 n1 c1 = .slice B1 m1 d1' := by simpa using he1
  injection he1' with x1 x2 x3
  subst x1 x2 x3
  have w1 : ∀ x ∈ l1, 0 ≤ x ∧ x ≤ 255 := fun x hx => by
    obtain ⟨z, hz, rfl, hw⟩ := hx1 x hx
    exact mkY_wf z hz hw
  clear hA0 hval0
  refine (wo_w _ _ _ l0 _ _ _ l1 i0 W hn0 hr0 w0 hn1 hr1 w1 b0).mono fun e W' ⟨he, bel⟩ => ?_
  subst he
  exact ⟨_, rfl, _, _, _, [], _, [], hW', trodAll_mk1 (shut_bool u_bool _), (trodAll_cons_mk (Below.trod wo_laidOut (by kernel_rfl) (of_decide_eq_true (by kernel_rfl)) k0 bel lt0) (trodAll_cons_mk (Below.trod wo_laidOut (by kernel_rfl) (of_decide_eq_true (by kernel_rfl)) k1 bel lt1) (trodAll_cons_mk (Below.trod wo_laidOut (by kernel_rfl) (of_decide_eq_true (by kernel_rfl)) k2 bel lt2) trodAll_mk0))), rfl, bel.frame _, fun h => by cases h⟩

theorem wo_over : Rows.topWornRow.holds Try.pinned (OpenSpec.ofChange Rows.topWornSpec) :=
  OpenClaim.holds_of_wide 5 Try.f5 rfl rfl rfl rfl rfl rfl rfl ⟨rfl, rfl, rfl, rfl, rfl⟩ rfl rfl rfl rfl rfl (by kernel_rfl) Try.func5 (by kernel_rfl)
    (of_decide_eq_true (by kernel_rfl)) (by unfold Func.isWrapper; first | (rw [if_pos (by decide +kernel)]; kernel_rfl) | (rw [if_neg (by decide +kernel)]; exact ⟨rfl, rfl⟩))
    (fun os started H enc _ => wo_lifted os started H enc)

theorem topWorn_holds : Rows.TopWornSaid := wo_over
end Go.Proofs.Ythoigkgjidcklaa
