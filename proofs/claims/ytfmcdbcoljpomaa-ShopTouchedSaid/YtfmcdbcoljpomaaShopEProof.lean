/-
  ShopTouched holds: for all touches, every bad tool and every change the law returns true, and its arguments stay as they are.
  Conditions: none.
-/
import Derived.Test.YtfmcdbcoljpomaaShopE3
import Derived.Test.YtfmcdbcoljpomaaMe
import Derived.Test.YtfmcdbcoljpomaaRows
import Derived.Test.YtfmcdbcoljpomaaOpn
import Derived.WalkKit
import Derived.ProofKit
import Derived.OpenShut
import Derived.ShutString
import Derived.ChangeOld
import Derived.Below
set_option linter.unusedSimpArgs false
set_option linter.unusedVariables false
namespace Go.Proofs.Ytfmcdbcoljpomaa
open Go.ChangeShapes Go.WideShapes Go.ChangeAt Go.RowKit Go.Vm

theorem se_own : ownKnob Try.prog.godebug = none := by kernel_rfl
theorem se_laidOut : laidOutB Try.prog = true := by kernel_rfl
theorem u_int : Try.prog.underlying 3 = some (.int .i64) := by kernel_rfl
theorem u_u16 : Try.prog.underlying 56 = some (.int .u16) := by kernel_rfl
theorem u_bool : Try.prog.underlying 4 = some .bool := by kernel_rfl
def mkC (l : List Int) : Tc := (l.getD 0 0, l.getD 1 0, l.getD 2 0)
theorem mkC_enc (l : List Int) (h : l.length = 3) : eC (mkC l) = l.map (Value.int .i64) := by
  match l, h with
  | [_, _, _], _ => rfl
theorem se_list4 {l : List Value} {a0 : Value} {a1 : Value} {a2 : Value} {a3 : Value} (h : l.length = 4) (h0 : l[0]? = some a0) (h1 : l[1]? = some a1) (h2 : l[2]? = some a2) (h3 : l[3]? = some a3) : l = [a0, a1, a2, a3] := by
  match l, h with
  | [_, _, _, _], _ =>
    simp at h0 h1 h2 h3
    subst h0 h1 h2 h3
    rfl

/-- The law, called in any world. -/
theorem se_w (A0 : Option Addr) (n0 c0 : Nat) (l0 : List Tc) (i0 : Int) (i1 : Int) (i2 : Int) (i3 : Int) (i4 : Int) (W : World) (hn0 : l0.length = n0) (r0 : Row W A0 n0 c0 (rows eC l0)) (b0 : -9223372036854775808 ≤ i0 ∧ i0 ≤ 9223372036854775807) (b1 : -9223372036854775808 ≤ i1 ∧ i1 ≤ 9223372036854775807) (b2 : -9223372036854775808 ≤ i2 ∧ i2 ≤ 9223372036854775807) (b3 : -9223372036854775808 ≤ i3 ∧ i3 ≤ 9223372036854775807) (b4 : 0 ≤ i4 ∧ i4 ≤ 65535) :
    Calls Try.prog 8 #[.slice A0 n0 c0, .agg #[.int .i64 i0, .int .i64 i1, .int .i64 i2, .int .i64 i3], .int .u16 i4] W fun e W' => e = .returned (.bool true) ∧ Below W.heap.size W W' := by
  obtain ⟨φ, κ, R, hr⟩ := rows_entry [(A0, n0, c0, rows eC l0)] (fun x hx => by
    simp only [List.mem_cons, List.not_mem_nil, or_false] at hx
    rcases hx with rfl
    · exact ⟨r0, no_all (rows_no (f := eC) l0)⟩)
  obtain ⟨e0, o0⟩ := hr 0 _ rfl
  simp only [List.length_cons, List.length_nil, List.map_cons, List.map_nil, Nat.reduceAdd] at e0 o0
  refine (touched_c n0 c0 l0 i0 i1 i2 i3 i4 hn0 b4).enter R ?_ ?_ rfl
  · intro x hx
    simp only [List.mem_cons, List.not_mem_nil, or_false] at hx
    rcases hx with rfl | rfl | rfl
    · exact o0
    · exact ok_noAddr _ _ _ rfl
    · exact ok_noAddr _ _ _ rfl
  · show (#[Vm.ren φ κ (.slice (some ⟨1, 0, none⟩) n0 c0), .agg #[Vm.ren φ κ (.int .i64 i0), Vm.ren φ κ (.int .i64 i1), Vm.ren φ κ (.int .i64 i2), Vm.ren φ κ (.int .i64 i3)], Vm.ren φ κ (.int .u16 i4)] : Array Value) = _
    simp only [e0, ren_noAddr _ _ (Value.int .i64 i0) rfl, ren_noAddr _ _ (Value.int .i64 i1) rfl, ren_noAddr _ _ (Value.int .i64 i2) rfl, ren_noAddr _ _ (Value.int .i64 i3) rfl, ren_noAddr _ _ (Value.int .u16 i4) rfl]

set_option maxRecDepth 100000 in
theorem se_lifted (os : Os) (started : os.Started) (H : Type) (enc : TypeId × Value → H) :
    ReturnsInHanded {} Try.checked os 8 .any (Rows.shopTouchedSpec.pre6 enc Try.prog Try.f8 Rows.shopTouchedRow.domain false) (Rows.shopTouchedSpec.post enc Try.prog Try.f8 false true false false) := by
  refine returnsInHanded_of_change (C := Try.checked) se_own started (by kernel_rfl) Try.func8
    (ChangeSpec.witness6 (enc := enc) (C := Try.checked) false ⟨#[], #[.slice none 0 0, .agg #[.int .i64 0, .int .i64 0, .int .i64 0, .int .i64 0], .int .u16 0], []⟩ 8 (by kernel_rfl) (by kernel_rfl) (by kernel_rfl) (by kernel_rfl)) ?_
  intro W base args ds gs before hval0 hW hcnd _
  have hval : ∀ (j : Nat) t v, Try.f8.params[j]? = some t → args[j]? = some v → Value.okWide Try.prog W .any base t v := hval0
  have hW' := hW
  obtain ⟨p, q, hA0, hV, rfl, hfz, hnd⟩ := hW
  have hA : DataW.TrodAll enc Try.prog W 0 (fun _ => true) true Try.f8.params.toList args.toList ds p := hA0
  rw [Try.params8] at hA hval
  obtain ⟨v0, vs0, d0, ds0, p0, q0, hargs, rfl, rfl, g0, r0⟩ := trodAll_cons hA
  obtain ⟨v1, vs1, d1, ds1, p1, q1, rfl, rfl, rfl, g1, r1⟩ := trodAll_cons r0
  obtain ⟨v2, vs2, d2, ds2, p2, q2, rfl, rfl, rfl, g2, r2⟩ := trodAll_cons r1
  obtain ⟨rfl, rfl, rfl⟩ := trodAll_nil r2
  obtain rfl : args = #[v0, v1, v2] := by cases args; simp_all
  obtain ⟨rfl, rfl⟩ := trodVars_none hV
  have k0 := g0
  have lt0 : ∀ x ∈ p0, x.block < W.heap.size := by obtain ⟨m, hm⟩ := k0; exact DataW.trod_lt m _ _ _ hm
  have k1 := g1
  have lt1 : ∀ x ∈ p1, x.block < W.heap.size := by obtain ⟨m, hm⟩ := k1; exact DataW.trod_lt m _ _ _ hm
  have k2 := g2
  have lt2 : ∀ x ∈ p2, x.block < W.heap.size := by obtain ⟨m, hm⟩ := k2; exact DataW.trod_lt m _ _ _ hm
  obtain ⟨A0, n0, c0, rfl⟩ := okWide_slice Try.underlying41 (hval 0 41 v0 rfl rfl)
  obtain ⟨f0, hf0⟩ := g0
  obtain ⟨B0, m0, d0', l0, he0, hn0, hr0, _, hx0⟩ := Row.of_trod mkC mkC_enc (f := 9) (ls := [3, 3, 3]) Try.underlying41 (by kernel_rfl) rfl (by omega) (by kernel_rfl) (fun lt hlt => by simp at hlt; subst hlt; exact u_int) (by simpa [Value.cells] using hf0)
  have he0' : Value.slice A0 n0 c0 = .slice B0 m0 d0' := by simpa using he0
  injection he0' with x1 x2 x3
  subst x1 x2 x3
  obtain ⟨cs1, rfl, hz1⟩ := okWide_struct Try.underlying43 (hval 1 43 v1 rfl rfl)
  obtain ⟨cl1⟩ := cs1
  obtain ⟨f1, hf1⟩ := g1
  have L1 := leaves_spec 9 43 _ (show leaves Try.prog 9 43 = some [3, 3, 3, 3] by kernel_rfl) f1 _ _ hf1
  have hcl1 : cl1.length = 4 := by
    rw [show Try.prog.cellsOf 43 = 4 by kernel_rfl] at hz1
    simpa using hz1
  obtain ⟨i0, hi0, hw0⟩ := (L1 0 _ rfl).int u_int
  obtain ⟨i1, hi1, hw1⟩ := (L1 1 _ rfl).int u_int
  obtain ⟨i2, hi2, hw2⟩ := (L1 2 _ rfl).int u_int
  obtain ⟨i3, hi3, hw3⟩ := (L1 3 _ rfl).int u_int
  simp only [Value.cells] at hi0 hi1 hi2 hi3
  have b0 : -9223372036854775808 ≤ i0 ∧ i0 ≤ 9223372036854775807 := by simp [Lit.wf, IntKind.min, IntKind.max, IntKind.signed, IntKind.bits] at hw0; omega
  have b1 : -9223372036854775808 ≤ i1 ∧ i1 ≤ 9223372036854775807 := by simp [Lit.wf, IntKind.min, IntKind.max, IntKind.signed, IntKind.bits] at hw1; omega
  have b2 : -9223372036854775808 ≤ i2 ∧ i2 ≤ 9223372036854775807 := by simp [Lit.wf, IntKind.min, IntKind.max, IntKind.signed, IntKind.bits] at hw2; omega
  have b3 : -9223372036854775808 ≤ i3 ∧ i3 ≤ 9223372036854775807 := by simp [Lit.wf, IntKind.min, IntKind.max, IntKind.signed, IntKind.bits] at hw3; omega
  have hcs1 := se_list4 hcl1 hi0 hi1 hi2 hi3
  subst hcs1
  obtain ⟨i4, rfl⟩ := okWide_int u_u16 (hval 2 56 v2 rfl rfl)
  obtain ⟨f2, hf2⟩ := g2
  obtain ⟨y4, hy4, hw4⟩ := (leaves_spec 9 56 _ (show leaves Try.prog 9 56 = some [56] by kernel_rfl) f2 _ _ hf2 0 _ rfl).int u_u16
  simp only [Value.cells] at hy4
  obtain rfl : i4 = y4 := by simpa using hy4
  have b4 : 0 ≤ i4 ∧ i4 ≤ 65535 := by simp [Lit.wf, IntKind.min, IntKind.max, IntKind.signed, IntKind.bits] at hw4; omega
  clear hA0 hval0
  refine (se_w _ _ _ l0 i0 i1 i2 i3 i4 W hn0 hr0 b0 b1 b2 b3 b4).mono fun e W' ⟨he, bel⟩ => ?_
  subst he
  exact ⟨_, rfl, _, _, _, [], _, [], hW', trodAll_mk1 (shut_bool u_bool _), (trodAll_cons_mk (Below.trod se_laidOut (by kernel_rfl) (of_decide_eq_true (by kernel_rfl)) k0 bel lt0) (trodAll_cons_mk (Below.trod se_laidOut (by kernel_rfl) (of_decide_eq_true (by kernel_rfl)) k1 bel lt1) (trodAll_cons_mk (Below.trod se_laidOut (by kernel_rfl) (of_decide_eq_true (by kernel_rfl)) k2 bel lt2) trodAll_mk0))), rfl, bel.frame _, fun h => by cases h⟩

theorem se_over : Rows.shopTouchedRow.holds Try.pinned (OpenSpec.ofChange Rows.shopTouchedSpec) :=
  OpenClaim.holds_of_wide 8 Try.f8 rfl rfl rfl rfl rfl rfl rfl ⟨rfl, rfl, rfl, rfl, rfl⟩ rfl rfl rfl rfl rfl (by kernel_rfl) Try.func8 (by kernel_rfl)
    (of_decide_eq_true (by kernel_rfl)) (by unfold Func.isWrapper; first | (rw [if_pos (by decide +kernel)]; kernel_rfl) | (rw [if_neg (by decide +kernel)]; exact ⟨rfl, rfl⟩))
    (fun os started H enc _ => se_lifted os started H enc)

theorem shopTouched_holds : Rows.ShopTouchedSaid := se_over
end Go.Proofs.Ytfmcdbcoljpomaa
