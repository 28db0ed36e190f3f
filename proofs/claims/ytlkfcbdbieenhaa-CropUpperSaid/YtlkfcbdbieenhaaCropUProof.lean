/-
  CropUpper holds: for all stretches, every saw and every trial the law returns true, and its arguments stay as they are.
  Conditions: none.
-/
import Derived.Test.YtlkfcbdbieenhaaCropU1
import Derived.Test.YtlkfcbdbieenhaaMe
import Derived.Test.YtlkfcbdbieenhaaRows
import Derived.Test.YtlkfcbdbieenhaaOpn
import Derived.WalkKit
import Derived.ProofKit
import Derived.OpenShut
import Derived.ShutString
import Derived.ChangeOld
import Derived.Below
set_option linter.unusedSimpArgs false
set_option linter.unusedVariables false
namespace Go.Proofs.Ytlkfcbdbieenhaa
open Go.ChangeShapes Go.WideShapes Go.ChangeAt Go.RowKit Go.Vm

theorem cu_own : ownKnob Try.prog.godebug = none := by kernel_rfl
theorem cu_laidOut : laidOutB Try.prog = true := by kernel_rfl
theorem u_int : Try.prog.underlying 3 = some (.int .i64) := by kernel_rfl
theorem u_bool : Try.prog.underlying 4 = some .bool := by kernel_rfl
def mkII (l : List Int) : Int × Int := (l.getD 0 0, l.getD 1 0)
theorem mkII_enc (l : List Int) (h : l.length = 2) : eII (mkII l) = l.map (Value.int .i64) := by
  match l, h with
  | [_, _], _ => rfl
def mkI (l : List Int) : Int := l.getD 0 0
theorem mkI_enc (l : List Int) (h : l.length = 1) : eI (mkI l) = l.map (Value.int .i64) := by
  match l, h with
  | [_], _ => rfl
theorem cu_list2 {l : List Value} {a0 : Value} {a1 : Value} (h : l.length = 2) (h0 : l[0]? = some a0) (h1 : l[1]? = some a1) : l = [a0, a1] := by
  match l, h with
  | [_, _], _ =>
    simp at h0 h1
    subst h0 h1
    rfl
theorem cu_list3 {l : List Value} {a0 : Value} {a1 : Value} {a2 : Value} (h : l.length = 3) (h0 : l[0]? = some a0) (h1 : l[1]? = some a1) (h2 : l[2]? = some a2) : l = [a0, a1, a2] := by
  match l, h with
  | [_, _, _], _ =>
    simp at h0 h1 h2
    subst h0 h1 h2
    rfl

/-- The law, called in any world. -/
theorem cu_w (A0 : Option Addr) (n0 c0 : Nat) (l0 : List (Int × Int)) (A1 : Option Addr) (n1 c1 : Nat) (l1 : List (Int × Int)) (A2 : Option Addr) (n2 c2 : Nat) (l2 : List Int) (i0 : Int) (i1 : Int) (i2 : Int) (W : World) (hn0 : l0.length = n0) (r0 : Row W A0 n0 c0 (rows eII l0)) (hn1 : l1.length = n1) (r1 : Row W A1 n1 c1 (rows eII l1)) (hn2 : l2.length = n2) (r2 : Row W A2 n2 c2 (rows eI l2)) (b0 : -9223372036854775808 ≤ i0 ∧ i0 ≤ 9223372036854775807) (b1 : -9223372036854775808 ≤ i1 ∧ i1 ≤ 9223372036854775807) (b2 : -9223372036854775808 ≤ i2 ∧ i2 ≤ 9223372036854775807) :
    Calls Try.prog 9 #[.slice A0 n0 c0, .agg #[.int .i64 i0, .int .i64 i1, .int .i64 i2], .agg #[.slice A1 n1 c1, .slice A2 n2 c2]] W fun e W' => e = .returned (.bool true) ∧ Below W.heap.size W W' := by
  obtain ⟨φ, κ, R, hr⟩ := rows_entry [(A0, n0, c0, rows eII l0), (A1, n1, c1, rows eII l1), (A2, n2, c2, rows eI l2)] (fun x hx => by
    simp only [List.mem_cons, List.not_mem_nil, or_false] at hx
    rcases hx with rfl | rfl | rfl
    · exact ⟨r0, no_all (rows_no (f := eII) l0)⟩
    · exact ⟨r1, no_all (rows_no (f := eII) l1)⟩
    · exact ⟨r2, no_all (rows_no (f := eI) l2)⟩)
  obtain ⟨e0, o0⟩ := hr 0 _ rfl
  obtain ⟨e1, o1⟩ := hr 1 _ rfl
  obtain ⟨e2, o2⟩ := hr 2 _ rfl
  simp only [List.length_cons, List.length_nil, List.map_cons, List.map_nil, Nat.reduceAdd] at e0 o0 e1 o1 e2 o2
  refine (upper_c n0 c0 l0 i0 i1 i2 n1 c1 l1 n2 c2 l2 hn0 hn1 hn2).enter R ?_ ?_ rfl
  · intro x hx
    simp only [List.mem_cons, List.not_mem_nil, or_false] at hx
    rcases hx with rfl | rfl | rfl
    · exact o0
    · exact ok_noAddr _ _ _ rfl
    · exact ⟨o1, o2, trivial⟩
  · show (#[Vm.ren φ κ (.slice (some ⟨1, 0, none⟩) n0 c0), .agg #[Vm.ren φ κ (.int .i64 i0), Vm.ren φ κ (.int .i64 i1), Vm.ren φ κ (.int .i64 i2)], .agg #[Vm.ren φ κ (.slice (some ⟨2, 0, none⟩) n1 c1), Vm.ren φ κ (.slice (some ⟨3, 0, none⟩) n2 c2)]] : Array Value) = _
    simp only [e0, e1, e2, ren_noAddr _ _ (Value.int .i64 i0) rfl, ren_noAddr _ _ (Value.int .i64 i1) rfl, ren_noAddr _ _ (Value.int .i64 i2) rfl]

set_option maxRecDepth 100000 in
theorem cu_lifted (os : Os) (started : os.Started) (H : Type) (enc : TypeId × Value → H) :
    ReturnsInHanded {} Try.checked os 9 .any (Rows.cropUpperSpec.pre6 enc Try.prog Try.f9 Rows.cropUpperRow.domain false) (Rows.cropUpperSpec.post enc Try.prog Try.f9 false true false false) := by
  refine returnsInHanded_of_change (C := Try.checked) cu_own started (by kernel_rfl) Try.func9
    (ChangeSpec.witness6 (enc := enc) (C := Try.checked) false ⟨#[], #[.slice none 0 0, .agg #[.int .i64 0, .int .i64 0, .int .i64 0], .agg #[.slice none 0 0, .slice none 0 0]], []⟩ 8 (by kernel_rfl) (by kernel_rfl) (by kernel_rfl) (by kernel_rfl)) ?_
  intro W base args ds gs before hval0 hW hcnd _
  have hval : ∀ (j : Nat) t v, Try.f9.params[j]? = some t → args[j]? = some v → Value.okWide Try.prog W .any base t v := hval0
  have hW' := hW
  obtain ⟨p, q, hA0, hV, rfl, hfz, hnd⟩ := hW
  have hA : DataW.TrodAll enc Try.prog W 0 (fun _ => true) true Try.f9.params.toList args.toList ds p := hA0
  rw [Try.params9] at hA hval
  obtain ⟨v0, vs0, d0, ds0, p0, q0, hargs, rfl, rfl, g0, r0⟩ := trodAll_cons hA
  obtain ⟨v1, vs1, d1, ds1, p1, q1, rfl, rfl, rfl, g1, r1⟩ := trodAll_cons r0
  obtain ⟨v2, vs2, d2, ds2, p2, q2, rfl, rfl, rfl, g2, r2⟩ := trodAll_cons r1
  obtain ⟨rfl, rfl, rfl⟩ := trodAll_nil r2
  obtain rfl : args = #[v0, v1, v2] := by cases args; simp_all
  obtain ⟨rfl, rfl⟩ := trodVars_none hV
  have k0 := g0
  have lt0 : ∀ x ∈ p0, x.block < W.heap.size := by obtain ⟨m, hm⟩ := k0; exact DataW.trod_lt m _ _ _ hm
  have k1 := g1
  have lt1 : ∀ x ∈ p1, x.block < W.heap.size := by obtain ⟨m, hm⟩ := k1; exact DataW.trod_lt m _ _ _ hm
  have k2 := g2
  have lt2 : ∀ x ∈ p2, x.block < W.heap.size := by obtain ⟨m, hm⟩ := k2; exact DataW.trod_lt m _ _ _ hm
  obtain ⟨A0, n0, c0, rfl⟩ := okWide_slice Try.underlying22 (hval 0 22 v0 rfl rfl)
  obtain ⟨f0, hf0⟩ := g0
  obtain ⟨B0, m0, d0', l0, he0, hn0, hr0, _, hx0⟩ := Row.of_trod mkII mkII_enc (f := 9) (ls := [3, 3]) Try.underlying22 (by kernel_rfl) rfl (by omega) (by kernel_rfl) (fun lt hlt => by simp at hlt; subst hlt; exact u_int) (by simpa [Value.cells] using hf0)
  have he0' : Value.slice A0 n0 c0 = .slice B0 m0 d0' := by simpa using he0
  injection he0' with x1 x2 x3
  subst x1 x2 x3
  obtain ⟨cs1, rfl, hz1⟩ := okWide_struct Try.underlying24 (hval 1 24 v1 rfl rfl)
  obtain ⟨cl1⟩ := cs1
  obtain ⟨f1, hf1⟩ := g1
  have L1 := leaves_spec 9 24 _ (show leaves Try.prog 9 24 = some [3, 3, 3] by kernel_rfl) f1 _ _ hf1
  have hcl1 : cl1.length = 3 := by
    rw [show Try.prog.cellsOf 24 = 3 by kernel_rfl] at hz1
    simpa using hz1
  obtain ⟨i0, hi0, hw0⟩ := (L1 0 _ rfl).int u_int
  obtain ⟨i1, hi1, hw1⟩ := (L1 1 _ rfl).int u_int
  obtain ⟨i2, hi2, hw2⟩ := (L1 2 _ rfl).int u_int
  simp only [Value.cells] at hi0 hi1 hi2
  have b0 : -9223372036854775808 ≤ i0 ∧ i0 ≤ 9223372036854775807 := by simp [Lit.wf, IntKind.min, IntKind.max, IntKind.signed, IntKind.bits] at hw0; omega
  have b1 : -9223372036854775808 ≤ i1 ∧ i1 ≤ 9223372036854775807 := by simp [Lit.wf, IntKind.min, IntKind.max, IntKind.signed, IntKind.bits] at hw1; omega
  have b2 : -9223372036854775808 ≤ i2 ∧ i2 ≤ 9223372036854775807 := by simp [Lit.wf, IntKind.min, IntKind.max, IntKind.signed, IntKind.bits] at hw2; omega
  have hcs1 := cu_list3 hcl1 hi0 hi1 hi2
  subst hcs1
  obtain ⟨cs2, rfl, hz2⟩ := okWide_struct Try.underlying82 (hval 2 82 v2 rfl rfl)
  obtain ⟨cl2⟩ := cs2
  obtain ⟨f2, hf2⟩ := g2
  have L2 := leaves_spec 9 82 _ (show leaves Try.prog 9 82 = some [29, 71] by kernel_rfl) f2 _ _ hf2
  have hcl2 : cl2.length = 2 := by
    rw [show Try.prog.cellsOf 82 = 2 by kernel_rfl] at hz2
    simpa using hz2
  obtain ⟨vb1, fb1, yb1, hv1, ht1⟩ := L2 0 _ rfl
  obtain ⟨vb2, fb2, yb2, hv2, ht2⟩ := L2 1 _ rfl
  simp only [Value.cells] at hv1 hv2
  obtain ⟨B1, m1, d1', l1, he1, hn1, hr1, _, hx1⟩ := Row.of_trod mkII mkII_enc (f := 9) (ls := [3, 3]) Try.underlying29 (by kernel_rfl) rfl (by omega) (by kernel_rfl) (fun lt hlt => by simp at hlt; subst hlt; exact u_int) ht1
  subst he1
  obtain ⟨B2, m2, d2', l2, he2, hn2, hr2, _, hx2⟩ := Row.of_trod mkI mkI_enc (f := 9) (ls := [3]) Try.underlying71 (by kernel_rfl) rfl (by omega) (by kernel_rfl) (fun lt hlt => by simp at hlt; subst hlt; exact u_int) ht2
  subst he2
  have hcs2 := cu_list2 hcl2 hv1 hv2
  subst hcs2
  clear hA0 hval0
  refine (cu_w _ _ _ l0 _ _ _ l1 _ _ _ l2 i0 i1 i2 W hn0 hr0 hn1 hr1 hn2 hr2 b0 b1 b2).mono fun e W' ⟨he, bel⟩ => ?_
  subst he
  exact ⟨_, rfl, _, _, _, [], _, [], hW', trodAll_mk1 (shut_bool u_bool _), (trodAll_cons_mk (Below.trod cu_laidOut (by kernel_rfl) (of_decide_eq_true (by kernel_rfl)) k0 bel lt0) (trodAll_cons_mk (Below.trod cu_laidOut (by kernel_rfl) (of_decide_eq_true (by kernel_rfl)) k1 bel lt1) (trodAll_cons_mk (Below.trod cu_laidOut (by kernel_rfl) (of_decide_eq_true (by kernel_rfl)) k2 bel lt2) trodAll_mk0))), rfl, bel.frame _, fun h => by cases h⟩

theorem cu_over : Rows.cropUpperRow.holds Try.pinned (OpenSpec.ofChange Rows.cropUpperSpec) :=
  OpenClaim.holds_of_wide 9 Try.f9 rfl rfl rfl rfl rfl rfl rfl ⟨rfl, rfl, rfl, rfl, rfl⟩ rfl rfl rfl rfl rfl (by kernel_rfl) Try.func9 (by kernel_rfl)
    (of_decide_eq_true (by kernel_rfl)) (by unfold Func.isWrapper; first | (rw [if_pos (by decide +kernel)]; kernel_rfl) | (rw [if_neg (by decide +kernel)]; exact ⟨rfl, rfl⟩))
    (fun os started H enc _ => cu_lifted os started H enc)

theorem cropUpper_holds : Rows.CropUpperSaid := cu_over
end Go.Proofs.Ytlkfcbdbieenhaa
