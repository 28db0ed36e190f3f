/-
  TopThinned holds: for every wire, web, truth, length and finishing steps the law returns true, and its arguments stay as they are.
  Conditions: none.
-/
import Derived.Test.YtjfgbdmdnejhdaaThG
import Derived.Test.YtjfgbdmdnejhdaaRows
import Derived.Test.YtjfgbdmdnejhdaaOpn
import Derived.WalkKit
import Derived.ProofKit
import Derived.OpenShut
import Derived.ShutString
import Derived.ChangeOld
import Derived.Below
set_option linter.unusedSimpArgs false
set_option linter.unusedVariables false
namespace Go.Proofs.Ytjfgbdmdnejhdaa
open Go.ChangeShapes Go.WideShapes Go.ChangeAt Go.RowKit Go.Vm

theorem tn_own : ownKnob Try.prog.godebug = none := by kernel_rfl
theorem tn_laidOut : laidOutB Try.prog = true := by kernel_rfl
theorem u_rk : Try.prog.underlying 49 = some (.int .i64) := by kernel_rfl
theorem u_int : Try.prog.underlying 3 = some (.int .i64) := by kernel_rfl
theorem u_u8 : Try.prog.underlying 5 = some (.int .u8) := by kernel_rfl
theorem u_bool : Try.prog.underlying 4 = some .bool := by kernel_rfl
def mkI (l : List Int) : Int := l.getD 0 0
theorem mkY_enc (l : List Int) (h : l.length = 1) : eY (mkI l) = l.map (Value.int .u8) := by
  match l, h with
  | [_], _ => rfl
theorem mkY_wf (l : List Int) (h : l.length = 1) (hw : ∀ z ∈ l, (Lit.int .u8 z).wf = true) : 0 ≤ mkI l ∧ mkI l ≤ 255 := by
  match l, h, hw with
  | [a], _, hw =>
    have := hw a (by simp)
    simp [Lit.wf, IntKind.min, IntKind.max, IntKind.signed, IntKind.bits] at this
    show 0 ≤ a ∧ a ≤ 255
    omega
def mkS (l : List Int) : Rm × Int := (⟨l.getD 0 0, l.getD 1 0, l.getD 2 0⟩, l.getD 3 0)
theorem mkS_enc (l : List Int) (h : l.length = 4) : eS (mkS l) = l.map (Value.int .i64) := by
  match l, h with
  | [_, _, _, _], _ => rfl
theorem tn_list11 {l : List Value} {a0 : Value} {a1 : Value} {a2 : Value} {a3 : Value} {a4 : Value} {a5 : Value} {a6 : Value} {a7 : Value} {a8 : Value} {a9 : Value} {a10 : Value} (h : l.length = 11) (h0 : l[0]? = some a0) (h1 : l[1]? = some a1) (h2 : l[2]? = some a2) (h3 : l[3]? = some a3) (h4 : l[4]? = some a4) (h5 : l[5]? = some a5) (h6 : l[6]? = some a6) (h7 : l[7]? = some a7) (h8 : l[8]? = some a8) (h9 : l[9]? = some a9) (h10 : l[10]? = some a10) : l = [a0, a1, a2, a3, a4, a5, a6, a7, a8, a9, a10] := by
  match l, h with
  | [_, _, _, _, _, _, _, _, _, _, _], _ =>
    simp at h0 h1 h2 h3 h4 h5 h6 h7 h8 h9 h10
    subst h0 h1 h2 h3 h4 h5 h6 h7 h8 h9 h10
    rfl

/-- The law, called in any world. -/
theorem tn_w (A0 : Option Addr) (n0 c0 : Nat) (l0 : List Int) (A1 : Option Addr) (n1 c1 : Nat) (l1 : List (Rm × Int)) (i0 : Int) (i1 : Int) (i2 : Int) (i3 : Int) (i4 : Int) (i5 : Int) (i6 : Int) (i7 : Int) (i8 : Int) (i9 : Int) (i10 : Int) (W : World) (hn0 : l0.length = n0) (r0 : Row W A0 n0 c0 (rows eY l0)) (w0 : ∀ x ∈ l0, 0 ≤ x ∧ x ≤ 255) (hn1 : l1.length = n1) (r1 : Row W A1 n1 c1 (rows eS l1)) (b0 : -9223372036854775808 ≤ i0 ∧ i0 ≤ 9223372036854775807) (b1 : -9223372036854775808 ≤ i1 ∧ i1 ≤ 9223372036854775807) (b2 : -9223372036854775808 ≤ i2 ∧ i2 ≤ 9223372036854775807) (b3 : -9223372036854775808 ≤ i3 ∧ i3 ≤ 9223372036854775807) (b4 : -9223372036854775808 ≤ i4 ∧ i4 ≤ 9223372036854775807) (b5 : -9223372036854775808 ≤ i5 ∧ i5 ≤ 9223372036854775807) (b6 : -9223372036854775808 ≤ i6 ∧ i6 ≤ 9223372036854775807) (b7 : -9223372036854775808 ≤ i7 ∧ i7 ≤ 9223372036854775807) (b8 : -9223372036854775808 ≤ i8 ∧ i8 ≤ 9223372036854775807) (b9 : -9223372036854775808 ≤ i9 ∧ i9 ≤ 9223372036854775807) (b10 : -9223372036854775808 ≤ i10 ∧ i10 ≤ 9223372036854775807) :
    Calls Try.prog 3 #[.agg #[.int .i64 i0, .int .i64 i1, .int .i64 i2, .int .i64 i3, .int .i64 i4, .int .i64 i5, .int .i64 i6, .int .i64 i7, .int .i64 i8, .int .i64 i9, .slice A0 n0 c0], .int .i64 i10, .slice A1 n1 c1] W fun e W' => e = .returned (.bool true) ∧ Below W.heap.size W W' := by
  obtain ⟨φ, κ, R, hr⟩ := rows_entry [(A0, n0, c0, rows eY l0), (A1, n1, c1, rows eS l1)] (fun x hx => by
    simp only [List.mem_cons, List.not_mem_nil, or_false] at hx
    rcases hx with rfl | rfl
    · exact ⟨r0, no_all (rows_no (f := eY) l0)⟩
    · exact ⟨r1, no_all (rows_no (f := eS) l1)⟩)
  obtain ⟨e0, o0⟩ := hr 0 _ rfl
  obtain ⟨e1, o1⟩ := hr 1 _ rfl
  simp only [List.length_cons, List.length_nil, List.map_cons, List.map_nil, Nat.reduceAdd] at e0 o0 e1 o1
  refine (thin_law ⟨i0, i1, i2, i3, i4, i5, i6, i7, i8, i9⟩ i10 l0 n0 c0 l1 n1 c1 hn0 w0 hn1).enter R ?_ ?_ rfl
  · intro x hx
    simp only [List.mem_cons, List.not_mem_nil, or_false] at hx
    rcases hx with rfl | rfl | rfl
    · exact ⟨ok_noAddr _ _ (.int .i64 i0) rfl, ok_noAddr _ _ (.int .i64 i1) rfl, ok_noAddr _ _ (.int .i64 i2) rfl, ok_noAddr _ _ (.int .i64 i3) rfl, ok_noAddr _ _ (.int .i64 i4) rfl, ok_noAddr _ _ (.int .i64 i5) rfl, ok_noAddr _ _ (.int .i64 i6) rfl, ok_noAddr _ _ (.int .i64 i7) rfl, ok_noAddr _ _ (.int .i64 i8) rfl, ok_noAddr _ _ (.int .i64 i9) rfl, o0, trivial⟩
    · exact ok_noAddr _ _ _ rfl
    · exact o1
  · show (#[.agg #[Vm.ren φ κ (.int .i64 i0), Vm.ren φ κ (.int .i64 i1), Vm.ren φ κ (.int .i64 i2), Vm.ren φ κ (.int .i64 i3), Vm.ren φ κ (.int .i64 i4), Vm.ren φ κ (.int .i64 i5), Vm.ren φ κ (.int .i64 i6), Vm.ren φ κ (.int .i64 i7), Vm.ren φ κ (.int .i64 i8), Vm.ren φ κ (.int .i64 i9), Vm.ren φ κ (.slice (some ⟨1, 0, none⟩) n0 c0)], Vm.ren φ κ (.int .i64 i10), Vm.ren φ κ (.slice (some ⟨2, 0, none⟩) n1 c1)] : Array Value) = _
    simp only [e0, e1, ren_noAddr _ _ (Value.int .i64 i0) rfl, ren_noAddr _ _ (Value.int .i64 i1) rfl, ren_noAddr _ _ (Value.int .i64 i2) rfl, ren_noAddr _ _ (Value.int .i64 i3) rfl, ren_noAddr _ _ (Value.int .i64 i4) rfl, ren_noAddr _ _ (Value.int .i64 i5) rfl, ren_noAddr _ _ (Value.int .i64 i6) rfl, ren_noAddr _ _ (Value.int .i64 i7) rfl, ren_noAddr _ _ (Value.int .i64 i8) rfl, ren_noAddr _ _ (Value.int .i64 i9) rfl, ren_noAddr _ _ (Value.int .i64 i10) rfl]

set_option maxRecDepth 100000 in
theorem tn_lifted (os : Os) (started : os.Started) (H : Type) (enc : TypeId × Value → H) :
    ReturnsInHanded {} Try.checked os 3 .any (Rows.topThinnedSpec.pre6 enc Try.prog Try.f3 Rows.topThinnedRow.domain false) (Rows.topThinnedSpec.post enc Try.prog Try.f3 false true false false) := by
  refine returnsInHanded_of_change (C := Try.checked) tn_own started (by kernel_rfl) Try.func3
    (ChangeSpec.witness6 (enc := enc) (C := Try.checked) false ⟨#[], #[.agg #[.int .i64 0, .int .i64 0, .int .i64 0, .int .i64 0, .int .i64 0, .int .i64 0, .int .i64 0, .int .i64 0, .int .i64 0, .int .i64 0, .slice none 0 0], .int .i64 0, .slice none 0 0], []⟩ 8 (by kernel_rfl) (by kernel_rfl) (by kernel_rfl) (by kernel_rfl)) ?_
  intro W base args ds gs before hval0 hW hcnd _
  have hval : ∀ (j : Nat) t v, Try.f3.params[j]? = some t → args[j]? = some v → Value.okWide Try.prog W .any base t v := hval0
  have hW' := hW
  obtain ⟨p, q, hA0, hV, rfl, hfz, hnd⟩ := hW
  have hA : DataW.TrodAll enc Try.prog W 0 (fun _ => true) true Try.f3.params.toList args.toList ds p := hA0
  rw [Try.params3] at hA hval
  obtain ⟨v0, vs0, d0, ds0, p0, q0, hargs, rfl, rfl, g0, r0⟩ := trodAll_cons hA
  obtain ⟨v1, vs1, d1, ds1, p1, q1, rfl, rfl, rfl, g1, r1⟩ := trodAll_cons r0
  obtain ⟨v2, vs2, d2, ds2, p2, q2, rfl, rfl, rfl, g2, r2⟩ := trodAll_cons r1
  obtain ⟨rfl, rfl, rfl⟩ := trodAll_nil r2
  obtain rfl : args = #[v0, v1, v2] := by cases args; simp_all
  obtain ⟨rfl, rfl⟩ := trodVars_none hV
  have k0 := g0
  have lt0 : ∀ x ∈ p0, x.block < W.heap.size := by obtain ⟨m, hm⟩ := k0; exact DataW.trod_lt m _ _ _ hm
  have k1 := g1
  have lt1 : ∀ x ∈ p1, x.block < W.heap.size := by obtain ⟨m, hm⟩ := k1; exact DataW.trod_lt m _ _ _ hm
  have k2 := g2
  have lt2 : ∀ x ∈ p2, x.block < W.heap.size := by obtain ⟨m, hm⟩ := k2; exact DataW.trod_lt m _ _ _ hm
  obtain ⟨cs0, rfl, hz0⟩ := okWide_struct Try.underlying31 (hval 0 31 v0 rfl rfl)
  obtain ⟨cl0⟩ := cs0
  obtain ⟨f0, hf0⟩ := g0
  have L0 := leaves_spec 9 31 _ (show leaves Try.prog 9 31 = some [3, 3, 3, 3, 3, 3, 3, 3, 3, 3, 29] by kernel_rfl) f0 _ _ hf0
  have hcl0 : cl0.length = 11 := by
    rw [show Try.prog.cellsOf 31 = 11 by kernel_rfl] at hz0
    simpa using hz0
  obtain ⟨i0, hi0, hw0⟩ := (L0 0 _ rfl).int u_int
  obtain ⟨i1, hi1, hw1⟩ := (L0 1 _ rfl).int u_int
  obtain ⟨i2, hi2, hw2⟩ := (L0 2 _ rfl).int u_int
  obtain ⟨i3, hi3, hw3⟩ := (L0 3 _ rfl).int u_int
  obtain ⟨i4, hi4, hw4⟩ := (L0 4 _ rfl).int u_int
  obtain ⟨i5, hi5, hw5⟩ := (L0 5 _ rfl).int u_int
  obtain ⟨i6, hi6, hw6⟩ := (L0 6 _ rfl).int u_int
  obtain ⟨i7, hi7, hw7⟩ := (L0 7 _ rfl).int u_int
  obtain ⟨i8, hi8, hw8⟩ := (L0 8 _ rfl).int u_int
  obtain ⟨i9, hi9, hw9⟩ := (L0 9 _ rfl).int u_int
  obtain ⟨vb0, fb0, yb0, hv0, ht0⟩ := L0 10 _ rfl
  simp only [Value.cells] at hi0 hi1 hi2 hi3 hi4 hi5 hi6 hi7 hi8 hi9 hv0
  have b0 : -9223372036854775808 ≤ i0 ∧ i0 ≤ 9223372036854775807 := by simp [Lit.wf, IntKind.min, IntKind.max, IntKind.signed, IntKind.bits] at hw0; omega
  have b1 : -9223372036854775808 ≤ i1 ∧ i1 ≤ 9223372036854775807 := by simp [Lit.wf, IntKind.min, IntKind.max, IntKind.signed, IntKind.bits] at hw1; omega
  have b2 : -9223372036854775808 ≤ i2 ∧ i2 ≤ 9223372036854775807 := by simp [Lit.wf, IntKind.min, IntKind.max, IntKind.signed, IntKind.bits] at hw2; omega
  have b3 : -9223372036854775808 ≤ i3 ∧ i3 ≤ 9223372036854775807 := by simp [Lit.wf, IntKind.min, IntKind.max, IntKind.signed, IntKind.bits] at hw3; omega
  have b4 : -9223372036854775808 ≤ i4 ∧ i4 ≤ 9223372036854775807 := by simp [Lit.wf, IntKind.min, IntKind.max, IntKind.signed, IntKind.bits] at hw4; omega
  have b5 : -9223372036854775808 ≤ i5 ∧ i5 ≤ 9223372036854775807 := by simp [Lit.wf, IntKind.min, IntKind.max, IntKind.signed, IntKind.bits] at hw5; omega
  have b6 : -9223372036854775808 ≤ i6 ∧ i6 ≤ 9223372036854775807 := by simp [Lit.wf, IntKind.min, IntKind.max, IntKind.signed, IntKind.bits] at hw6; omega
  have b7 : -9223372036854775808 ≤ i7 ∧ i7 ≤ 9223372036854775807 := by simp [Lit.wf, IntKind.min, IntKind.max, IntKind.signed, IntKind.bits] at hw7; omega
  have b8 : -9223372036854775808 ≤ i8 ∧ i8 ≤ 9223372036854775807 := by simp [Lit.wf, IntKind.min, IntKind.max, IntKind.signed, IntKind.bits] at hw8; omega
  have b9 : -9223372036854775808 ≤ i9 ∧ i9 ≤ 9223372036854775807 := by simp [Lit.wf, IntKind.min, IntKind.max, IntKind.signed, IntKind.bits] at hw9; omega
  obtain ⟨B0, m0, d0', l0, he0, hn0, hr0, hcp0, hx0⟩ := Row.of_trod mkI mkY_enc (f := 9) (ls := [5]) Try.underlying29 (by kernel_rfl) rfl (by omega) (by kernel_rfl) (fun lt hlt => by simp at hlt; subst hlt; exact u_u8) ht0
  subst he0
  have w0 : ∀ x ∈ l0, 0 ≤ x ∧ x ≤ 255 := fun x hx => by
    obtain ⟨z, hz, rfl, hw⟩ := hx0 x hx
    exact mkY_wf z hz hw
  have hcs0 := tn_list11 hcl0 hi0 hi1 hi2 hi3 hi4 hi5 hi6 hi7 hi8 hi9 hv0
  subst hcs0
  obtain ⟨i10, rfl⟩ := okWide_int u_int (hval 1 3 v1 rfl rfl)
  obtain ⟨f1, hf1⟩ := g1
  obtain ⟨y10, hy10, hw10⟩ := (leaves_spec 9 3 _ (show leaves Try.prog 9 3 = some [3] by kernel_rfl) f1 _ _ hf1 0 _ rfl).int u_int
  simp only [Value.cells] at hy10
  obtain rfl : i10 = y10 := by simpa using hy10
  have b10 : -9223372036854775808 ≤ i10 ∧ i10 ≤ 9223372036854775807 := by simp [Lit.wf, IntKind.min, IntKind.max, IntKind.signed, IntKind.bits] at hw10; omega
  obtain ⟨A1, n1, c1, rfl⟩ := okWide_slice Try.underlying32 (hval 2 32 v2 rfl rfl)
  obtain ⟨f2, hf2⟩ := g2
  obtain ⟨B1, m1, d1', l1, he1, hn1, hr1, hcp1, hx1⟩ := Row.of_trod mkS mkS_enc (f := 9) (ls := [49, 3, 3, 3]) Try.underlying32 (by kernel_rfl) rfl (by omega) (by kernel_rfl) (fun lt hlt => by simp at hlt; rcases hlt with rfl | rfl | rfl | rfl <;> first | exact u_int | exact u_rk) (by simpa [Value.cells] using hf2)
  have he1' : Value.slice A1 n1 c1 = .slice B1 m1 d1' := by simpa using he1
  injection he1' with x1 x2 x3
  subst x1 x2 x3
  clear hA0 hval0
  refine (tn_w _ _ _ l0 _ _ _ l1 i0 i1 i2 i3 i4 i5 i6 i7 i8 i9 i10 W hn0 hr0 w0 hn1 hr1 b0 b1 b2 b3 b4 b5 b6 b7 b8 b9 b10).mono fun e W' ⟨he, bel⟩ => ?_
  subst he
  exact ⟨_, rfl, _, _, _, [], _, [], hW', trodAll_mk1 (shut_bool u_bool _), (trodAll_cons_mk (Below.trod tn_laidOut (by kernel_rfl) (of_decide_eq_true (by kernel_rfl)) k0 bel lt0) (trodAll_cons_mk (Below.trod tn_laidOut (by kernel_rfl) (of_decide_eq_true (by kernel_rfl)) k1 bel lt1) (trodAll_cons_mk (Below.trod tn_laidOut (by kernel_rfl) (of_decide_eq_true (by kernel_rfl)) k2 bel lt2) trodAll_mk0))), rfl, bel.frame _, fun h => by cases h⟩

theorem tn_over : Rows.topThinnedRow.holds Try.pinned (OpenSpec.ofChange Rows.topThinnedSpec) :=
  OpenClaim.holds_of_wide 3 Try.f3 rfl rfl rfl rfl rfl rfl rfl ⟨rfl, rfl, rfl, rfl, rfl⟩ rfl rfl rfl rfl rfl (by kernel_rfl) Try.func3 (by kernel_rfl)
    (of_decide_eq_true (by kernel_rfl)) (by unfold Func.isWrapper; first | (rw [if_pos (by decide +kernel)]; kernel_rfl) | (rw [if_neg (by decide +kernel)]; exact ⟨rfl, rfl⟩))
    (fun os started H enc _ => tn_lifted os started H enc)

theorem topThinned_holds : Rows.TopThinnedSaid := tn_over
end Go.Proofs.Ytjfgbdmdnejhdaa
