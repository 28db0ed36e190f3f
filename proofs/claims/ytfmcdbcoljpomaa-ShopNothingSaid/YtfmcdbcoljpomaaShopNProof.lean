/-
  ShopNothing holds: for every call the law returns true, and its argument stays as it is.
  Conditions: none.
-/
import Derived.Test.YtfmcdbcoljpomaaShopN2
import Derived.Test.YtfmcdbcoljpomaaMe
import Derived.Test.YtfmcdbcoljpomaaRows
import Derived.Test.YtfmcdbcoljpomaaOpn
import Derived.WalkKit
import Derived.ProofKit
import Derived.OpenShut
import Derived.ShutString
import Derived.ChangeOld
import Derived.Below
set_option linter.unusedSimpArgs false
set_option linter.unusedVariables false
namespace Go.Proofs.Ytfmcdbcoljpomaa
open Go.ChangeShapes Go.WideShapes Go.ChangeAt Go.RowKit Go.Vm

theorem sn_own : ownKnob Try.prog.godebug = none := by kernel_rfl
theorem sn_laidOut : laidOutB Try.prog = true := by kernel_rfl
theorem u_int : Try.prog.underlying 3 = some (.int .i64) := by kernel_rfl
theorem u_u8 : Try.prog.underlying 5 = some (.int .u8) := by kernel_rfl
theorem u_bool : Try.prog.underlying 4 = some .bool := by kernel_rfl
def mkI (l : List Int) : Int := l.getD 0 0
theorem mkI_enc (l : List Int) (h : l.length = 1) : eN (mkI l) = l.map (Value.int .i64) := by
  match l, h with
  | [_], _ => rfl
theorem sn_list4 {l : List Value} {a0 : Value} {a1 : Value} {a2 : Value} {a3 : Value} (h : l.length = 4) (h0 : l[0]? = some a0) (h1 : l[1]? = some a1) (h2 : l[2]? = some a2) (h3 : l[3]? = some a3) : l = [a0, a1, a2, a3] := by
  match l, h with
  | [_, _, _, _], _ =>
    simp at h0 h1 h2 h3
    subst h0 h1 h2 h3
    rfl

/-- The law, called in any world. -/
theorem sn_w (A0 : Option Addr) (n0 c0 : Nat) (l0 : List Int) (i0 : Int) (i1 : Int) (i2 : Int) (W : World) (hn0 : l0.length = n0) (r0 : Row W A0 n0 c0 (rows eN l0)) (b0 : 0 ≤ i0 ∧ i0 ≤ 255) (b1 : -9223372036854775808 ≤ i1 ∧ i1 ≤ 9223372036854775807) (b2 : -9223372036854775808 ≤ i2 ∧ i2 ≤ 9223372036854775807) :
    Calls Try.prog 9 #[.agg #[.int .u8 i0, .int .i64 i1, .int .i64 i2, .slice A0 n0 c0]] W fun e W' => e = .returned (.bool true) ∧ Below W.heap.size W W' := by
  obtain ⟨φ, κ, R, hr⟩ := rows_entry [(A0, n0, c0, rows eN l0)] (fun x hx => by
    simp only [List.mem_cons, List.not_mem_nil, or_false] at hx
    rcases hx with rfl
    · exact ⟨r0, no_all (rows_no (f := eN) l0)⟩)
  obtain ⟨e0, o0⟩ := hr 0 _ rfl
  simp only [List.length_cons, List.length_nil, List.map_cons, List.map_nil, Nat.reduceAdd] at e0 o0
  refine (nothing_c n0 c0 i0 i1 i2 l0 hn0 b0).enter R ?_ ?_ rfl
  · intro x hx
    simp only [List.mem_cons, List.not_mem_nil, or_false] at hx
    rcases hx with rfl
    · exact ⟨ok_noAddr _ _ (.int .u8 i0) rfl, ok_noAddr _ _ (.int .i64 i1) rfl, ok_noAddr _ _ (.int .i64 i2) rfl, o0, trivial⟩
  · show (#[.agg #[Vm.ren φ κ (.int .u8 i0), Vm.ren φ κ (.int .i64 i1), Vm.ren φ κ (.int .i64 i2), Vm.ren φ κ (.slice (some ⟨1, 0, none⟩) n0 c0)]] : Array Value) = _
    simp only [e0, ren_noAddr _ _ (Value.int .u8 i0) rfl, ren_noAddr _ _ (Value.int .i64 i1) rfl, ren_noAddr _ _ (Value.int .i64 i2) rfl]

set_option maxRecDepth 100000 in
theorem sn_lifted (os : Os) (started : os.Started) (H : Type) (enc : TypeId × Value → H) :
    ReturnsInHanded {} Try.checked os 9 .any (Rows.shopNothingSpec.pre6 enc Try.prog Try.f9 Rows.shopNothingRow.domain false) (Rows.shopNothingSpec.post enc Try.prog Try.f9 false true false false) := by
  refine returnsInHanded_of_change (C := Try.checked) sn_own started (by kernel_rfl) Try.func9
    (ChangeSpec.witness6 (enc := enc) (C := Try.checked) false ⟨#[], #[.agg #[.int .u8 0, .int .i64 0, .int .i64 0, .slice none 0 0]], []⟩ 8 (by kernel_rfl) (by kernel_rfl) (by kernel_rfl) (by kernel_rfl)) ?_
  intro W base args ds gs before hval0 hW hcnd _
  have hval : ∀ (j : Nat) t v, Try.f9.params[j]? = some t → args[j]? = some v → Value.okWide Try.prog W .any base t v := hval0
  have hW' := hW
  obtain ⟨p, q, hA0, hV, rfl, hfz, hnd⟩ := hW
  have hA : DataW.TrodAll enc Try.prog W 0 (fun _ => true) true Try.f9.params.toList args.toList ds p := hA0
  rw [Try.params9] at hA hval
  obtain ⟨v0, vs0, d0, ds0, p0, q0, hargs, rfl, rfl, g0, r0⟩ := trodAll_cons hA
  obtain ⟨rfl, rfl, rfl⟩ := trodAll_nil r0
  obtain rfl : args = #[v0] := by cases args; simp_all
  obtain ⟨rfl, rfl⟩ := trodVars_none hV
  have k0 := g0
  have lt0 : ∀ x ∈ p0, x.block < W.heap.size := by obtain ⟨m, hm⟩ := k0; exact DataW.trod_lt m _ _ _ hm
  obtain ⟨cs0, rfl, hz0⟩ := okWide_struct Try.underlying64 (hval 0 64 v0 rfl rfl)
  obtain ⟨cl0⟩ := cs0
  obtain ⟨f0, hf0⟩ := g0
  have L0 := leaves_spec 9 64 _ (show leaves Try.prog 9 64 = some [5, 3, 3, 25] by kernel_rfl) f0 _ _ hf0
  have hcl0 : cl0.length = 4 := by
    rw [show Try.prog.cellsOf 64 = 4 by kernel_rfl] at hz0
    simpa using hz0
  obtain ⟨i0, hi0, hw0⟩ := (L0 0 _ rfl).int u_u8
  obtain ⟨i1, hi1, hw1⟩ := (L0 1 _ rfl).int u_int
  obtain ⟨i2, hi2, hw2⟩ := (L0 2 _ rfl).int u_int
  obtain ⟨vb0, fb0, yb0, hv0, ht0⟩ := L0 3 _ rfl
  simp only [Value.cells] at hi0 hi1 hi2 hv0
  have b0 : 0 ≤ i0 ∧ i0 ≤ 255 := by simp [Lit.wf, IntKind.min, IntKind.max, IntKind.signed, IntKind.bits] at hw0; omega
  have b1 : -9223372036854775808 ≤ i1 ∧ i1 ≤ 9223372036854775807 := by simp [Lit.wf, IntKind.min, IntKind.max, IntKind.signed, IntKind.bits] at hw1; omega
  have b2 : -9223372036854775808 ≤ i2 ∧ i2 ≤ 9223372036854775807 := by simp [Lit.wf, IntKind.min, IntKind.max, IntKind.signed, IntKind.bits] at hw2; omega
  obtain ⟨B0, m0, d0', l0, he0, hn0, hr0, _, hx0⟩ := Row.of_trod mkI mkI_enc (f := 9) (ls := [3]) Try.underlying25 (by kernel_rfl) rfl (by omega) (by kernel_rfl) (fun lt hlt => by simp at hlt; subst hlt; exact u_int) ht0
  subst he0
  have hcs0 := sn_list4 hcl0 hi0 hi1 hi2 hv0
  subst hcs0
  clear hA0 hval0
  refine (sn_w _ _ _ l0 i0 i1 i2 W hn0 hr0 b0 b1 b2).mono fun e W' ⟨he, bel⟩ => ?_
  subst he
  exact ⟨_, rfl, _, _, _, [], _, [], hW', trodAll_mk1 (shut_bool u_bool _), (trodAll_cons_mk (Below.trod sn_laidOut (by kernel_rfl) (of_decide_eq_true (by kernel_rfl)) k0 bel lt0) trodAll_mk0), rfl, bel.frame _, fun h => by cases h⟩

theorem sn_over : Rows.shopNothingRow.holds Try.pinned (OpenSpec.ofChange Rows.shopNothingSpec) :=
  OpenClaim.holds_of_wide 9 Try.f9 rfl rfl rfl rfl rfl rfl rfl ⟨rfl, rfl, rfl, rfl, rfl⟩ rfl rfl rfl rfl rfl (by kernel_rfl) Try.func9 (by kernel_rfl)
    (of_decide_eq_true (by kernel_rfl)) (by unfold Func.isWrapper; first | (rw [if_pos (by decide +kernel)]; kernel_rfl) | (rw [if_neg (by decide +kernel)]; exact ⟨rfl, rfl⟩))
    (fun os started H enc _ => sn_lifted os started H enc)

theorem shopNothing_holds : Rows.ShopNothingSaid := sn_over
end Go.Proofs.Ytfmcdbcoljpomaa
