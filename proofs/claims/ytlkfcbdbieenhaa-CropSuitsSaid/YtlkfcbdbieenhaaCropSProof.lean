/-
  CropSuits holds: for all tilts, every tolerance, every setting and every number the law returns true, and its arguments stay as they are.
  Conditions: none.
-/
import Derived.Test.YtlkfcbdbieenhaaCropS7
import Derived.Test.YtlkfcbdbieenhaaMe
import Derived.Test.YtlkfcbdbieenhaaRows
import Derived.Test.YtlkfcbdbieenhaaOpn
import Derived.WalkKit
import Derived.ProofKit
import Derived.OpenShut
import Derived.ShutString
import Derived.ChangeOld
import Derived.Below
set_option linter.unusedSimpArgs false
set_option linter.unusedVariables false
namespace Go.Proofs.Ytlkfcbdbieenhaa
open Go.ChangeShapes Go.WideShapes Go.ChangeAt Go.RowKit Go.Vm

theorem cs_own : ownKnob Try.prog.godebug = none := by kernel_rfl
theorem cs_laidOut : laidOutB Try.prog = true := by kernel_rfl
theorem u_int : Try.prog.underlying 3 = some (.int .i64) := by kernel_rfl
theorem u_u8 : Try.prog.underlying 5 = some (.int .u8) := by kernel_rfl
theorem u_bool : Try.prog.underlying 4 = some .bool := by kernel_rfl
def mkT (l : List Int) : Tl := (l.getD 0 0, l.getD 1 0, l.getD 2 0, l.getD 3 0)
theorem mkT_enc (l : List Int) (h : l.length = 4) : eT (mkT l) = l.map (Value.int .i64) := by
  match l, h with
  | [_, _, _, _], _ => rfl
theorem cs_list4 {l : List Value} {a0 : Value} {a1 : Value} {a2 : Value} {a3 : Value} (h : l.length = 4) (h0 : l[0]? = some a0) (h1 : l[1]? = some a1) (h2 : l[2]? = some a2) (h3 : l[3]? = some a3) : l = [a0, a1, a2, a3] := by
  match l, h with
  | [_, _, _, _], _ =>
    simp at h0 h1 h2 h3
    subst h0 h1 h2 h3
    rfl

/-- The law, called in any world. -/
theorem cs_w (A0 : Option Addr) (n0 c0 : Nat) (l0 : List Tl) (i0 : Int) (i1 : Int) (i2 : Int) (i3 : Int) (W : World) (hn0 : l0.length = n0) (r0 : Row W A0 n0 c0 (rows eT l0)) (b0 : -9223372036854775808 ≤ i0 ∧ i0 ≤ 9223372036854775807) (b1 : -9223372036854775808 ≤ i1 ∧ i1 ≤ 9223372036854775807) (b2 : -9223372036854775808 ≤ i2 ∧ i2 ≤ 9223372036854775807) (b3 : 0 ≤ i3 ∧ i3 ≤ 255) :
    Calls Try.prog 11 #[.agg #[.slice A0 n0 c0, .int .i64 i0, .int .i64 i1, .int .i64 i2], .int .u8 i3] W fun e W' => e = .returned (.bool true) ∧ Below W.heap.size W W' := by
  obtain ⟨φ, κ, R, hr⟩ := rows_entry [(A0, n0, c0, rows eT l0)] (fun x hx => by
    simp only [List.mem_cons, List.not_mem_nil, or_false] at hx
    rcases hx with rfl
    · exact ⟨r0, no_all (rows_no (f := eT) l0)⟩)
  obtain ⟨e0, o0⟩ := hr 0 _ rfl
  simp only [List.length_cons, List.length_nil, List.map_cons, List.map_nil, Nat.reduceAdd] at e0 o0
  refine (suitsL_c n0 c0 l0 i0 i1 i2 i3 hn0 b3.1 b3.2).enter R ?_ ?_ rfl
  · intro x hx
    simp only [List.mem_cons, List.not_mem_nil, or_false] at hx
    rcases hx with rfl | rfl
    · exact ⟨o0, ok_noAddr _ _ (.int .i64 i0) rfl, ok_noAddr _ _ (.int .i64 i1) rfl, ok_noAddr _ _ (.int .i64 i2) rfl, trivial⟩
    · exact ok_noAddr _ _ _ rfl
  · show (#[.agg #[Vm.ren φ κ (.slice (some ⟨1, 0, none⟩) n0 c0), Vm.ren φ κ (.int .i64 i0), Vm.ren φ κ (.int .i64 i1), Vm.ren φ κ (.int .i64 i2)], Vm.ren φ κ (.int .u8 i3)] : Array Value) = _
    simp only [e0, ren_noAddr _ _ (Value.int .i64 i0) rfl, ren_noAddr _ _ (Value.int .i64 i1) rfl, ren_noAddr _ _ (Value.int .i64 i2) rfl, ren_noAddr _ _ (Value.int .u8 i3) rfl]

set_option maxRecDepth 100000 in
theorem cs_lifted (os : Os) (started : os.Started) (H : Type) (enc : TypeId × Value → H) :
    ReturnsInHanded {} Try.checked os 11 .any (Rows.cropSuitsSpec.pre6 enc Try.prog Try.f11 Rows.cropSuitsRow.domain false) (Rows.cropSuitsSpec.post enc Try.prog Try.f11 false true false false) := by
  refine returnsInHanded_of_change (C := Try.checked) cs_own started (by kernel_rfl) Try.func11
    (ChangeSpec.witness6 (enc := enc) (C := Try.checked) false ⟨#[], #[.agg #[.slice none 0 0, .int .i64 0, .int .i64 0, .int .i64 0], .int .u8 0], []⟩ 8 (by kernel_rfl) (by kernel_rfl) (by kernel_rfl) (by kernel_rfl)) ?_
  intro W base args ds gs before hval0 hW hcnd _
  have hval : ∀ (j : Nat) t v, Try.f11.params[j]? = some t → args[j]? = some v → Value.okWide Try.prog W .any base t v := hval0
  have hW' := hW
  obtain ⟨p, q, hA0, hV, rfl, hfz, hnd⟩ := hW
  have hA : DataW.TrodAll enc Try.prog W 0 (fun _ => true) true Try.f11.params.toList args.toList ds p := hA0
  rw [Try.params11] at hA hval
  obtain ⟨v0, vs0, d0, ds0, p0, q0, hargs, rfl, rfl, g0, r0⟩ := trodAll_cons hA
  obtain ⟨v1, vs1, d1, ds1, p1, q1, rfl, rfl, rfl, g1, r1⟩ := trodAll_cons r0
  obtain ⟨rfl, rfl, rfl⟩ := trodAll_nil r1
  obtain rfl : args = #[v0, v1] := by cases args; simp_all
  obtain ⟨rfl, rfl⟩ := trodVars_none hV
  have k0 := g0
  have lt0 : ∀ x ∈ p0, x.block < W.heap.size := by obtain ⟨m, hm⟩ := k0; exact DataW.trod_lt m _ _ _ hm
  have k1 := g1
  have lt1 : ∀ x ∈ p1, x.block < W.heap.size := by obtain ⟨m, hm⟩ := k1; exact DataW.trod_lt m _ _ _ hm
  obtain ⟨cs0, rfl, hz0⟩ := okWide_struct Try.underlying88 (hval 0 88 v0 rfl rfl)
  obtain ⟨cl0⟩ := cs0
  obtain ⟨f0, hf0⟩ := g0
  have L0 := leaves_spec 9 88 _ (show leaves Try.prog 9 88 = some [84, 3, 3, 3] by kernel_rfl) f0 _ _ hf0
  have hcl0 : cl0.length = 4 := by
    rw [show Try.prog.cellsOf 88 = 4 by kernel_rfl] at hz0
    simpa using hz0
  obtain ⟨vb0, fb0, yb0, hv0, ht0⟩ := L0 0 _ rfl
  obtain ⟨i0, hi0, hw0⟩ := (L0 1 _ rfl).int u_int
  obtain ⟨i1, hi1, hw1⟩ := (L0 2 _ rfl).int u_int
  obtain ⟨i2, hi2, hw2⟩ := (L0 3 _ rfl).int u_int
  simp only [Value.cells] at hv0 hi0 hi1 hi2
  have b0 : -9223372036854775808 ≤ i0 ∧ i0 ≤ 9223372036854775807 := by simp [Lit.wf, IntKind.min, IntKind.max, IntKind.signed, IntKind.bits] at hw0; omega
  have b1 : -9223372036854775808 ≤ i1 ∧ i1 ≤ 9223372036854775807 := by simp [Lit.wf, IntKind.min, IntKind.max, IntKind.signed, IntKind.bits] at hw1; omega
  have b2 : -9223372036854775808 ≤ i2 ∧ i2 ≤ 9223372036854775807 := by simp [Lit.wf, IntKind.min, IntKind.max, IntKind.signed, IntKind.bits] at hw2; omega
  obtain ⟨B0, m0, d0', l0, he0, hn0, hr0, _, hx0⟩ := Row.of_trod mkT mkT_enc (f := 9) (ls := [3, 3, 3, 3]) Try.underlying84 (by kernel_rfl) rfl (by omega) (by kernel_rfl) (fun lt hlt => by simp at hlt; subst hlt; exact u_int) ht0
  subst he0
  have hcs0 := cs_list4 hcl0 hv0 hi0 hi1 hi2
  subst hcs0
  obtain ⟨i3, rfl⟩ := okWide_int u_u8 (hval 1 5 v1 rfl rfl)
  obtain ⟨f1, hf1⟩ := g1
  obtain ⟨y3, hy3, hw3⟩ := (leaves_spec 9 5 _ (show leaves Try.prog 9 5 = some [5] by kernel_rfl) f1 _ _ hf1 0 _ rfl).int u_u8
  simp only [Value.cells] at hy3
  obtain rfl : i3 = y3 := by simpa using hy3
  have b3 : 0 ≤ i3 ∧ i3 ≤ 255 := by simp [Lit.wf, IntKind.min, IntKind.max, IntKind.signed, IntKind.bits] at hw3; omega
  clear hA0 hval0
  refine (cs_w _ _ _ l0 i0 i1 i2 i3 W hn0 hr0 b0 b1 b2 b3).mono fun e W' ⟨he, bel⟩ => ?_
  subst he
  exact ⟨_, rfl, _, _, _, [], _, [], hW', trodAll_mk1 (shut_bool u_bool _), (trodAll_cons_mk (Below.trod cs_laidOut (by kernel_rfl) (of_decide_eq_true (by kernel_rfl)) k0 bel lt0) (trodAll_cons_mk (Below.trod cs_laidOut (by kernel_rfl) (of_decide_eq_true (by kernel_rfl)) k1 bel lt1) trodAll_mk0)), rfl, bel.frame _, fun h => by cases h⟩

theorem cs_over : Rows.cropSuitsRow.holds Try.pinned (OpenSpec.ofChange Rows.cropSuitsSpec) :=
  OpenClaim.holds_of_wide 11 Try.f11 rfl rfl rfl rfl rfl rfl rfl ⟨rfl, rfl, rfl, rfl, rfl⟩ rfl rfl rfl rfl rfl (by kernel_rfl) Try.func11 (by kernel_rfl)
    (of_decide_eq_true (by kernel_rfl)) (by unfold Func.isWrapper; first | (rw [if_pos (by decide +kernel)]; kernel_rfl) | (rw [if_neg (by decide +kernel)]; exact ⟨rfl, rfl⟩))
    (fun os started H enc _ => cs_lifted os started H enc)

theorem cropSuits_holds : Rows.CropSuitsSaid := cs_over
end Go.Proofs.Ytlkfcbdbieenhaa
