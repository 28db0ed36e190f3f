/-
  CropProves holds: for all stretches, every saw and every claim the law returns true, and its arguments stay as they are.
  Conditions: none.
-/
import Derived.Test.YtlkfcbdbieenhaaCropQ3
import Derived.Test.YtlkfcbdbieenhaaMe
import Derived.Test.YtlkfcbdbieenhaaRows
import Derived.Test.YtlkfcbdbieenhaaOpn
import Derived.WalkKit
import Derived.ProofKit
import Derived.OpenShut
import Derived.ShutString
import Derived.ChangeOld
import Derived.Below
set_option linter.unusedSimpArgs false
set_option linter.unusedVariables false
namespace Go.Proofs.Ytlkfcbdbieenhaa
open Go.ChangeShapes Go.WideShapes Go.ChangeAt Go.RowKit Go.Vm

theorem cq_own : ownKnob Try.prog.godebug = none := by kernel_rfl
theorem cq_laidOut : laidOutB Try.prog = true := by kernel_rfl
theorem u_int : Try.prog.underlying 3 = some (.int .i64) := by kernel_rfl
theorem u_u16 : Try.prog.underlying 72 = some (.int .u16) := by kernel_rfl
theorem u_bool : Try.prog.underlying 4 = some .bool := by kernel_rfl
def mkII (l : List Int) : Int × Int := (l.getD 0 0, l.getD 1 0)
theorem mkII_enc (l : List Int) (h : l.length = 2) : eII (mkII l) = l.map (Value.int .i64) := by
  match l, h with
  | [_, _], _ => rfl
def mkI (l : List Int) : Int := l.getD 0 0
theorem mkI_enc (l : List Int) (h : l.length = 1) : eI (mkI l) = l.map (Value.int .i64) := by
  match l, h with
  | [_], _ => rfl
theorem cq_list3 {l : List Value} {a0 : Value} {a1 : Value} {a2 : Value} (h : l.length = 3) (h0 : l[0]? = some a0) (h1 : l[1]? = some a1) (h2 : l[2]? = some a2) : l = [a0, a1, a2] := by
  match l, h with
  | [_, _, _], _ =>
    simp at h0 h1 h2
    subst h0 h1 h2
    rfl
theorem cq_list4 {l : List Value} {a0 : Value} {a1 : Value} {a2 : Value} {a3 : Value} (h : l.length = 4) (h0 : l[0]? = some a0) (h1 : l[1]? = some a1) (h2 : l[2]? = some a2) (h3 : l[3]? = some a3) : l = [a0, a1, a2, a3] := by
  match l, h with
  | [_, _, _, _], _ =>
    simp at h0 h1 h2 h3
    subst h0 h1 h2 h3
    rfl

/-- The law, called in any world. -/
theorem cq_w (A0 : Option Addr) (n0 c0 : Nat) (l0 : List (Int × Int)) (A1 : Option Addr) (n1 c1 : Nat) (l1 : List Int) (i0 : Int) (i1 : Int) (i2 : Int) (i3 : Int) (i4 : Int) (q0 : Bool) (W : World) (hn0 : l0.length = n0) (r0 : Row W A0 n0 c0 (rows eII l0)) (hn1 : l1.length = n1) (r1 : Row W A1 n1 c1 (rows eI l1)) (b0 : -9223372036854775808 ≤ i0 ∧ i0 ≤ 9223372036854775807) (b1 : -9223372036854775808 ≤ i1 ∧ i1 ≤ 9223372036854775807) (b2 : -9223372036854775808 ≤ i2 ∧ i2 ≤ 9223372036854775807) (b3 : 0 ≤ i3 ∧ i3 ≤ 65535) (b4 : -9223372036854775808 ≤ i4 ∧ i4 ≤ 9223372036854775807) :
    Calls Try.prog 8 #[.slice A0 n0 c0, .agg #[.int .i64 i0, .int .i64 i1, .int .i64 i2], .agg #[.slice A1 n1 c1, .bool q0, .int .u16 i3, .int .i64 i4]] W fun e W' => e = .returned (.bool true) ∧ Below W.heap.size W W' := by
  obtain ⟨φ, κ, R, hr⟩ := rows_entry [(A0, n0, c0, rows eII l0), (A1, n1, c1, rows eI l1)] (fun x hx => by
    simp only [List.mem_cons, List.not_mem_nil, or_false] at hx
    rcases hx with rfl | rfl
    · exact ⟨r0, no_all (rows_no (f := eII) l0)⟩
    · exact ⟨r1, no_all (rows_no (f := eI) l1)⟩)
  obtain ⟨e0, o0⟩ := hr 0 _ rfl
  obtain ⟨e1, o1⟩ := hr 1 _ rfl
  simp only [List.length_cons, List.length_nil, List.map_cons, List.map_nil, Nat.reduceAdd] at e0 o0 e1 o1
  refine (cproves_c n0 c0 l0 i0 i1 i2 n1 c1 l1 q0 i3 i4 hn0 hn1 b3 b4).enter R ?_ ?_ rfl
  · intro x hx
    simp only [List.mem_cons, List.not_mem_nil, or_false] at hx
    rcases hx with rfl | rfl | rfl
    · exact o0
    · exact ok_noAddr _ _ _ rfl
    · exact ⟨o1, ok_noAddr _ _ (.bool q0) rfl, ok_noAddr _ _ (.int .u16 i3) rfl, ok_noAddr _ _ (.int .i64 i4) rfl, trivial⟩
  · show (#[Vm.ren φ κ (.slice (some ⟨1, 0, none⟩) n0 c0), .agg #[Vm.ren φ κ (.int .i64 i0), Vm.ren φ κ (.int .i64 i1), Vm.ren φ κ (.int .i64 i2)], .agg #[Vm.ren φ κ (.slice (some ⟨2, 0, none⟩) n1 c1), Vm.ren φ κ (.bool q0), Vm.ren φ κ (.int .u16 i3), Vm.ren φ κ (.int .i64 i4)]] : Array Value) = _
    simp only [e0, e1, ren_noAddr _ _ (Value.int .i64 i0) rfl, ren_noAddr _ _ (Value.int .i64 i1) rfl, ren_noAddr _ _ (Value.int .i64 i2) rfl, ren_noAddr _ _ (Value.int .u16 i3) rfl, ren_noAddr _ _ (Value.int .i64 i4) rfl, ren_noAddr _ _ (Value.bool q0) rfl]

set_option maxRecDepth 100000 in
theorem cq_lifted (os : Os) (started : os.Started) (H : Type) (enc : TypeId × Value → H) :
    ReturnsInHanded {} Try.checked os 8 .any (Rows.cropProvesSpec.pre6 enc Try.prog Try.f8 Rows.cropProvesRow.domain false) (Rows.cropProvesSpec.post enc Try.prog Try.f8 false true false false) := by
  refine returnsInHanded_of_change (C := Try.checked) cq_own started (by kernel_rfl) Try.func8
    (ChangeSpec.witness6 (enc := enc) (C := Try.checked) false ⟨#[], #[.slice none 0 0, .agg #[.int .i64 0, .int .i64 0, .int .i64 0], .agg #[.slice none 0 0, .bool false, .int .u16 0, .int .i64 0]], []⟩ 8 (by kernel_rfl) (by kernel_rfl) (by kernel_rfl) (by kernel_rfl)) ?_
  intro W base args ds gs before hval0 hW hcnd _
  have hval : ∀ (j : Nat) t v, Try.f8.params[j]? = some t → args[j]? = some v → Value.okWide Try.prog W .any base t v := hval0
  have hW' := hW
  obtain ⟨p, q, hA0, hV, rfl, hfz, hnd⟩ := hW
  have hA : DataW.TrodAll enc Try.prog W 0 (fun _ => true) true Try.f8.params.toList args.toList ds p := hA0
  rw [Try.params8] at hA hval
  obtain ⟨v0, vs0, d0, ds0, p0, q0, hargs, rfl, rfl, g0, r0⟩ := trodAll_cons hA
  obtain ⟨v1, vs1, d1, ds1, p1, q1, rfl, rfl, rfl, g1, r1⟩ := trodAll_cons r0
  obtain ⟨v2, vs2, d2, ds2, p2, q2, rfl, rfl, rfl, g2, r2⟩ := trodAll_cons r1
  obtain ⟨rfl, rfl, rfl⟩ := trodAll_nil r2
  obtain rfl : args = #[v0, v1, v2] := by cases args; simp_all
  obtain ⟨rfl, rfl⟩ := trodVars_none hV
  have k0 := g0
  have lt0 : ∀ x ∈ p0, x.block < W.heap.size := by obtain ⟨m, hm⟩ := k0; exact DataW.trod_lt m _ _ _ hm
  have k1 := g1
  have lt1 : ∀ x ∈ p1, x.block < W.heap.size := by obtain ⟨m, hm⟩ := k1; exact DataW.trod_lt m _ _ _ hm
  have k2 := g2
  have lt2 : ∀ x ∈ p2, x.block < W.heap.size := by obtain ⟨m, hm⟩ := k2; exact DataW.trod_lt m _ _ _ hm
  obtain ⟨A0, n0, c0, rfl⟩ := okWide_slice Try.underlying22 (hval 0 22 v0 rfl rfl)
  obtain ⟨f0, hf0⟩ := g0
  obtain ⟨B0, m0, d0', l0, he0, hn0, hr0, _, hx0⟩ := Row.of_trod mkII mkII_enc (f := 9) (ls := [3, 3]) Try.underlying22 (by kernel_rfl) rfl (by omega) (by kernel_rfl) (fun lt hlt => by simp at hlt; subst hlt; exact u_int) (by simpa [Value.cells] using hf0)
  have he0' : Value.slice A0 n0 c0 = .slice B0 m0 d0' := by simpa using he0
  injection he0' with x1 x2 x3
  subst x1 x2 x3
  obtain ⟨cs1, rfl, hz1⟩ := okWide_struct Try.underlying24 (hval 1 24 v1 rfl rfl)
  obtain ⟨cl1⟩ := cs1
  obtain ⟨f1, hf1⟩ := g1
  have L1 := leaves_spec 9 24 _ (show leaves Try.prog 9 24 = some [3, 3, 3] by kernel_rfl) f1 _ _ hf1
  have hcl1 : cl1.length = 3 := by
    rw [show Try.prog.cellsOf 24 = 3 by kernel_rfl] at hz1
    simpa using hz1
  obtain ⟨i0, hi0, hw0⟩ := (L1 0 _ rfl).int u_int
  obtain ⟨i1, hi1, hw1⟩ := (L1 1 _ rfl).int u_int
  obtain ⟨i2, hi2, hw2⟩ := (L1 2 _ rfl).int u_int
  simp only [Value.cells] at hi0 hi1 hi2
  have b0 : -9223372036854775808 ≤ i0 ∧ i0 ≤ 9223372036854775807 := by simp [Lit.wf, IntKind.min, IntKind.max, IntKind.signed, IntKind.bits] at hw0; omega
  have b1 : -9223372036854775808 ≤ i1 ∧ i1 ≤ 9223372036854775807 := by simp [Lit.wf, IntKind.min, IntKind.max, IntKind.signed, IntKind.bits] at hw1; omega
  have b2 : -9223372036854775808 ≤ i2 ∧ i2 ≤ 9223372036854775807 := by simp [Lit.wf, IntKind.min, IntKind.max, IntKind.signed, IntKind.bits] at hw2; omega
  have hcs1 := cq_list3 hcl1 hi0 hi1 hi2
  subst hcs1
  obtain ⟨cs2, rfl, hz2⟩ := okWide_struct Try.underlying74 (hval 2 74 v2 rfl rfl)
  obtain ⟨cl2⟩ := cs2
  obtain ⟨f2, hf2⟩ := g2
  have L2 := leaves_spec 9 74 _ (show leaves Try.prog 9 74 = some [71, 4, 72, 3] by kernel_rfl) f2 _ _ hf2
  have hcl2 : cl2.length = 4 := by
    rw [show Try.prog.cellsOf 74 = 4 by kernel_rfl] at hz2
    simpa using hz2
  obtain ⟨vb1, fb1, yb1, hv1, ht1⟩ := L2 0 _ rfl
  obtain ⟨q0, hq0⟩ := (L2 1 _ rfl).bool u_bool
  obtain ⟨i3, hi3, hw3⟩ := (L2 2 _ rfl).int u_u16
  obtain ⟨i4, hi4, hw4⟩ := (L2 3 _ rfl).int u_int
  simp only [Value.cells] at hv1 hq0 hi3 hi4
  have b3 : 0 ≤ i3 ∧ i3 ≤ 65535 := by simp [Lit.wf, IntKind.min, IntKind.max, IntKind.signed, IntKind.bits] at hw3; omega
  have b4 : -9223372036854775808 ≤ i4 ∧ i4 ≤ 9223372036854775807 := by simp [Lit.wf, IntKind.min, IntKind.max, IntKind.signed, IntKind.bits] at hw4; omega
  obtain ⟨B1, m1, d1', l1, he1, hn1, hr1, _, hx1⟩ := Row.of_trod mkI mkI_enc (f := 9) (ls := [3]) Try.underlying71 (by kernel_rfl) rfl (by omega) (by kernel_rfl) (fun lt hlt => by simp at hlt; subst hlt; exact u_int) ht1
  subst he1
  have hcs2 := cq_list4 hcl2 hv1 hq0 hi3 hi4
  subst hcs2
  clear hA0 hval0
  refine (cq_w _ _ _ l0 _ _ _ l1 i0 i1 i2 i3 i4 q0 W hn0 hr0 hn1 hr1 b0 b1 b2 b3 b4).mono fun e W' ⟨he, bel⟩ => ?_
  subst he
  exact ⟨_, rfl, _, _, _, [], _, [], hW', trodAll_mk1 (shut_bool u_bool _), (trodAll_cons_mk (Below.trod cq_laidOut (by kernel_rfl) (of_decide_eq_true (by kernel_rfl)) k0 bel lt0) (trodAll_cons_mk (Below.trod cq_laidOut (by kernel_rfl) (of_decide_eq_true (by kernel_rfl)) k1 bel lt1) (trodAll_cons_mk (Below.trod cq_laidOut (by kernel_rfl) (of_decide_eq_true (by kernel_rfl)) k2 bel lt2) trodAll_mk0))), rfl, bel.frame _, fun h => by cases h⟩

theorem cq_over : Rows.cropProvesRow.holds Try.pinned (OpenSpec.ofChange Rows.cropProvesSpec) :=
  OpenClaim.holds_of_wide 8 Try.f8 rfl rfl rfl rfl rfl rfl rfl ⟨rfl, rfl, rfl, rfl, rfl⟩ rfl rfl rfl rfl rfl (by kernel_rfl) Try.func8 (by kernel_rfl)
    (of_decide_eq_true (by kernel_rfl)) (by unfold Func.isWrapper; first | (rw [if_pos (by decide +kernel)]; kernel_rfl) | (rw [if_neg (by decide +kernel)]; exact ⟨rfl, rfl⟩))
    (fun os started H enc _ => cq_lifted os started H enc)

theorem cropProves_holds : Rows.CropProvesSaid := cq_over
end Go.Proofs.Ytlkfcbdbieenhaa
