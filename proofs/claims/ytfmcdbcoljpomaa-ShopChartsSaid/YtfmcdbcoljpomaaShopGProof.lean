/-
  ShopCharts holds: for every chart, all values and every cut the law returns true, and its arguments stay as they are.
  Conditions: none.
-/
import Derived.Test.YtfmcdbcoljpomaaShopG6
import Derived.Test.YtfmcdbcoljpomaaMe
import Derived.Test.YtfmcdbcoljpomaaRows
import Derived.Test.YtfmcdbcoljpomaaOpn
import Derived.WalkKit
import Derived.ProofKit
import Derived.OpenShut
import Derived.ShutString
import Derived.ChangeOld
import Derived.Below
set_option linter.unusedSimpArgs false
set_option linter.unusedVariables false
namespace Go.Proofs.Ytfmcdbcoljpomaa
open Go.ChangeShapes Go.WideShapes Go.ChangeAt Go.RowKit Go.Vm

theorem sg_own : ownKnob Try.prog.godebug = none := by kernel_rfl
theorem sg_laidOut : laidOutB Try.prog = true := by kernel_rfl
theorem u_int : Try.prog.underlying 3 = some (.int .i64) := by kernel_rfl
theorem u_u8 : Try.prog.underlying 5 = some (.int .u8) := by kernel_rfl
theorem u_bool : Try.prog.underlying 4 = some .bool := by kernel_rfl
def mkU (l : List Int) : Ru := (l.getD 0 0, l.getD 1 0, l.getD 2 0)
theorem mkU_enc (l : List Int) (h : l.length = 3) : eU (mkU l) = l.map (Value.int .i64) := by
  match l, h with
  | [_, _, _], _ => rfl
def mkI (l : List Int) : Int := l.getD 0 0
theorem mkI_enc (l : List Int) (h : l.length = 1) : eN (mkI l) = l.map (Value.int .i64) := by
  match l, h with
  | [_], _ => rfl
theorem sg_list2 {l : List Value} {a0 : Value} {a1 : Value} (h : l.length = 2) (h0 : l[0]? = some a0) (h1 : l[1]? = some a1) : l = [a0, a1] := by
  match l, h with
  | [_, _], _ =>
    simp at h0 h1
    subst h0 h1
    rfl

/-- The law, called in any world. -/
theorem sg_w (A0 : Option Addr) (n0 c0 : Nat) (l0 : List Ru) (A1 : Option Addr) (n1 c1 : Nat) (l1 : List Int) (i0 : Int) (i1 : Int) (W : World) (hn0 : l0.length = n0) (r0 : Row W A0 n0 c0 (rows eU l0)) (hn1 : l1.length = n1) (r1 : Row W A1 n1 c1 (rows eN l1)) (hcp1 : n1 ≤ c1) (b0 : -9223372036854775808 ≤ i0 ∧ i0 ≤ 9223372036854775807) (b1 : 0 ≤ i1 ∧ i1 ≤ 255) :
    Calls Try.prog 6 #[.agg #[.int .i64 i0, .slice A0 n0 c0], .slice A1 n1 c1, .int .u8 i1] W fun e W' => e = .returned (.bool true) ∧ Below W.heap.size W W' := by
  obtain ⟨φ, κ, R, hr⟩ := rows_entry [(A0, n0, c0, rows eU l0), (A1, n1, c1, rows eN l1)] (fun x hx => by
    simp only [List.mem_cons, List.not_mem_nil, or_false] at hx
    rcases hx with rfl | rfl
    · exact ⟨r0, no_all (rows_no (f := eU) l0)⟩
    · exact ⟨r1, no_all (rows_no (f := eN) l1)⟩)
  obtain ⟨e0, o0⟩ := hr 0 _ rfl
  obtain ⟨e1, o1⟩ := hr 1 _ rfl
  simp only [List.length_cons, List.length_nil, List.map_cons, List.map_nil, Nat.reduceAdd] at e0 o0 e1 o1
  refine (charts_c n0 c0 n1 c1 i0 i1 l0 l1 hn0 hn1 hcp1 b1).enter R ?_ ?_ rfl
  · intro x hx
    simp only [List.mem_cons, List.not_mem_nil, or_false] at hx
    rcases hx with rfl | rfl | rfl
    · exact ⟨ok_noAddr _ _ (.int .i64 i0) rfl, o0, trivial⟩
    · exact o1
    · exact ok_noAddr _ _ _ rfl
  · show (#[.agg #[Vm.ren φ κ (.int .i64 i0), Vm.ren φ κ (.slice (some ⟨1, 0, none⟩) n0 c0)], Vm.ren φ κ (.slice (some ⟨2, 0, none⟩) n1 c1), Vm.ren φ κ (.int .u8 i1)] : Array Value) = _
    simp only [e0, e1, ren_noAddr _ _ (Value.int .i64 i0) rfl, ren_noAddr _ _ (Value.int .u8 i1) rfl]

set_option maxRecDepth 100000 in
theorem sg_lifted (os : Os) (started : os.Started) (H : Type) (enc : TypeId × Value → H) :
    ReturnsInHanded {} Try.checked os 6 .any (Rows.shopChartsSpec.pre6 enc Try.prog Try.f6 Rows.shopChartsRow.domain false) (Rows.shopChartsSpec.post enc Try.prog Try.f6 false true false false) := by
  refine returnsInHanded_of_change (C := Try.checked) sg_own started (by kernel_rfl) Try.func6
    (ChangeSpec.witness6 (enc := enc) (C := Try.checked) false ⟨#[], #[.agg #[.int .i64 0, .slice none 0 0], .slice none 0 0, .int .u8 0], []⟩ 8 (by kernel_rfl) (by kernel_rfl) (by kernel_rfl) (by kernel_rfl)) ?_
  intro W base args ds gs before hval0 hW hcnd _
  have hval : ∀ (j : Nat) t v, Try.f6.params[j]? = some t → args[j]? = some v → Value.okWide Try.prog W .any base t v := hval0
  have hW' := hW
  obtain ⟨p, q, hA0, hV, rfl, hfz, hnd⟩ := hW
  have hA : DataW.TrodAll enc Try.prog W 0 (fun _ => true) true Try.f6.params.toList args.toList ds p := hA0
  rw [Try.params6] at hA hval
  obtain ⟨v0, vs0, d0, ds0, p0, q0, hargs, rfl, rfl, g0, r0⟩ := trodAll_cons hA
  obtain ⟨v1, vs1, d1, ds1, p1, q1, rfl, rfl, rfl, g1, r1⟩ := trodAll_cons r0
  obtain ⟨v2, vs2, d2, ds2, p2, q2, rfl, rfl, rfl, g2, r2⟩ := trodAll_cons r1
  obtain ⟨rfl, rfl, rfl⟩ := trodAll_nil r2
  obtain rfl : args = #[v0, v1, v2] := by cases args; simp_all
  obtain ⟨rfl, rfl⟩ := trodVars_none hV
  have k0 := g0
  have lt0 : ∀ x ∈ p0, x.block < W.heap.size := by obtain ⟨m, hm⟩ := k0; exact DataW.trod_lt m _ _ _ hm
  have k1 := g1
  have lt1 : ∀ x ∈ p1, x.block < W.heap.size := by obtain ⟨m, hm⟩ := k1; exact DataW.trod_lt m _ _ _ hm
  have k2 := g2
  have lt2 : ∀ x ∈ p2, x.block < W.heap.size := by obtain ⟨m, hm⟩ := k2; exact DataW.trod_lt m _ _ _ hm
  obtain ⟨cs0, rfl, hz0⟩ := okWide_struct Try.underlying24 (hval 0 24 v0 rfl rfl)
  obtain ⟨cl0⟩ := cs0
  obtain ⟨f0, hf0⟩ := g0
  have L0 := leaves_spec 9 24 _ (show leaves Try.prog 9 24 = some [3, 22] by kernel_rfl) f0 _ _ hf0
  have hcl0 : cl0.length = 2 := by
    rw [show Try.prog.cellsOf 24 = 2 by kernel_rfl] at hz0
    simpa using hz0
  obtain ⟨i0, hi0, hw0⟩ := (L0 0 _ rfl).int u_int
  obtain ⟨vb0, fb0, yb0, hv0, ht0⟩ := L0 1 _ rfl
  simp only [Value.cells] at hi0 hv0
  have b0 : -9223372036854775808 ≤ i0 ∧ i0 ≤ 9223372036854775807 := by simp [Lit.wf, IntKind.min, IntKind.max, IntKind.signed, IntKind.bits] at hw0; omega
  obtain ⟨B0, m0, d0', l0, he0, hn0, hr0, hcp0, hx0⟩ := Row.of_trod mkU mkU_enc (f := 9) (ls := [3, 3, 3]) Try.underlying22 (by kernel_rfl) rfl (by omega) (by kernel_rfl) (fun lt hlt => by simp at hlt; subst hlt; exact u_int) ht0
  subst he0
  have hcs0 := sg_list2 hcl0 hi0 hv0
  subst hcs0
  obtain ⟨A1, n1, c1, rfl⟩ := okWide_slice Try.underlying25 (hval 1 25 v1 rfl rfl)
  obtain ⟨f1, hf1⟩ := g1
  obtain ⟨B1, m1, d1', l1, he1, hn1, hr1, hcp1, hx1⟩ := Row.of_trod mkI mkI_enc (f := 9) (ls := [3]) Try.underlying25 (by kernel_rfl) rfl (by omega) (by kernel_rfl) (fun lt hlt => by simp at hlt; subst hlt; exact u_int) (by simpa [Value.cells] using hf1)
  have he1' : Value.slice A1 n1 c1 = .slice B1 m1 d1' := by simpa using he1
  injection he1' with x1 x2 x3
  subst x1 x2 x3
  obtain ⟨i1, rfl⟩ := okWide_int u_u8 (hval 2 5 v2 rfl rfl)
  obtain ⟨f2, hf2⟩ := g2
  obtain ⟨y1, hy1, hw1⟩ := (leaves_spec 9 5 _ (show leaves Try.prog 9 5 = some [5] by kernel_rfl) f2 _ _ hf2 0 _ rfl).int u_u8
  simp only [Value.cells] at hy1
  obtain rfl : i1 = y1 := by simpa using hy1
  have b1 : 0 ≤ i1 ∧ i1 ≤ 255 := by simp [Lit.wf, IntKind.min, IntKind.max, IntKind.signed, IntKind.bits] at hw1; omega
  clear hA0 hval0
  refine (sg_w _ _ _ l0 _ _ _ l1 i0 i1 W hn0 hr0 hn1 hr1 hcp1 b0 b1).mono fun e W' ⟨he, bel⟩ => ?_
  subst he
  exact ⟨_, rfl, _, _, _, [], _, [], hW', trodAll_mk1 (shut_bool u_bool _), (trodAll_cons_mk (Below.trod sg_laidOut (by kernel_rfl) (of_decide_eq_true (by kernel_rfl)) k0 bel lt0) (trodAll_cons_mk (Below.trod sg_laidOut (by kernel_rfl) (of_decide_eq_true (by kernel_rfl)) k1 bel lt1) (trodAll_cons_mk (Below.trod sg_laidOut (by kernel_rfl) (of_decide_eq_true (by kernel_rfl)) k2 bel lt2) trodAll_mk0))), rfl, bel.frame _, fun h => by cases h⟩

theorem sg_over : Rows.shopChartsRow.holds Try.pinned (OpenSpec.ofChange Rows.shopChartsSpec) :=
  OpenClaim.holds_of_wide 6 Try.f6 rfl rfl rfl rfl rfl rfl rfl ⟨rfl, rfl, rfl, rfl, rfl⟩ rfl rfl rfl rfl rfl (by kernel_rfl) Try.func6 (by kernel_rfl)
    (of_decide_eq_true (by kernel_rfl)) (by unfold Func.isWrapper; first | (rw [if_pos (by decide +kernel)]; kernel_rfl) | (rw [if_neg (by decide +kernel)]; exact ⟨rfl, rfl⟩))
    (fun os started H enc _ => sg_lifted os started H enc)

theorem shopCharts_holds : Rows.ShopChartsSaid := sg_over
end Go.Proofs.Ytfmcdbcoljpomaa
