/-
  RecordTurned holds, tied: for all maps and every two numbers of quarters the law returns true, and its arguments stay as they are.
  Conditions: the package-level variables start as the program's text lays them, which the card ties.
-/
import Derived.Test.YtgjokhodccacoaaDoorSRecT2
import Derived.Test.YtgjokhodccacoaaDoorSMe
import Derived.Test.YtgjokhodccacoaaDoorSRecLaid
import Derived.Test.YtgjokhodccacoaaDoorTie
import Derived.Test.YtgjokhodccacoaaDoorCards
import Derived.SevenTiedAt
import Derived.Test.YtgjokhodccacoaaDoorRows
import Derived.Test.YtgjokhodccacoaaDoorSOpn
import Derived.WalkKit
import Derived.ProofKit
import Derived.OpenShut
import Derived.ShutString
import Derived.ChangeOld
import Derived.Below
set_option linter.unusedSimpArgs false
set_option linter.unusedVariables false
namespace Go.Proofs.YtgjokhodccacoaaDoor
open Go.ChangeShapes Go.WideShapes Go.ChangeAt Go.RowKit Go.Vm

theorem rq_own : ownKnob Tryd.prog.godebug = none := by kernel_rfl
theorem rq_laidOut : laidOutB Tryd.prog = true := by kernel_rfl
theorem u_int : Tryd.prog.underlying 3 = some (.int .i64) := by kernel_rfl
theorem u_u8 : Tryd.prog.underlying 5 = some (.int .u8) := by kernel_rfl
theorem u_bool : Tryd.prog.underlying 4 = some .bool := by kernel_rfl
def mkI (l : List Int) : Int := l.getD 0 0
theorem mkI_enc (l : List Int) (h : l.length = 1) : eN (mkI l) = l.map (Value.int .i64) := by
  match l, h with
  | [_], _ => rfl
theorem okWide_array {P : Program} {w : World} {base : Nat} {t : TypeId} {v : Value} {n : Nat} {el : TypeId} (ht : P.underlying t = some (.array n el)) (h : Value.okWide P w .any base t v) : ∃ cs, v = .agg cs ∧ cs.size = P.cellsOf t := by
  simp only [Value.okWide, ht] at h
  obtain ⟨cs, h1, h2, _⟩ := h
  exact ⟨cs, h1, h2⟩
theorem rq_list2 {l : List Value} {a0 : Value} {a1 : Value} (h : l.length = 2) (h0 : l[0]? = some a0) (h1 : l[1]? = some a1) : l = [a0, a1] := by
  match l, h with
  | [_, _], _ =>
    simp at h0 h1
    subst h0 h1
    rfl
theorem rq_list3 {l : List Value} {a0 : Value} {a1 : Value} {a2 : Value} (h : l.length = 3) (h0 : l[0]? = some a0) (h1 : l[1]? = some a1) (h2 : l[2]? = some a2) : l = [a0, a1, a2] := by
  match l, h with
  | [_, _, _], _ =>
    simp at h0 h1 h2
    subst h0 h1 h2
    rfl

/-- The law, called in any world. -/
theorem rq_w (A0 : Option Addr) (n0 c0 : Nat) (l0 : List Int) (A1 : Option Addr) (n1 c1 : Nat) (l1 : List Int) (i0 : Int) (i1 : Int) (i2 : Int) (i3 : Int) (i4 : Int) (i5 : Int) (W : World) (ht : Tab W) (hn0 : l0.length = n0) (r0 : Row W A0 n0 c0 (rows eN l0)) (hn1 : l1.length = n1) (r1 : Row W A1 n1 c1 (rows eN l1)) (b0 : -9223372036854775808 ≤ i0 ∧ i0 ≤ 9223372036854775807) (b1 : -9223372036854775808 ≤ i1 ∧ i1 ≤ 9223372036854775807) (b2 : -9223372036854775808 ≤ i2 ∧ i2 ≤ 9223372036854775807) (b3 : -9223372036854775808 ≤ i3 ∧ i3 ≤ 9223372036854775807) (b4 : 0 ≤ i4 ∧ i4 ≤ 255) (b5 : 0 ≤ i5 ∧ i5 ≤ 255) :
    Calls Tryd.prog 16 #[.agg #[.int .i64 i0, .int .i64 i1, .slice A0 n0 c0], .agg #[.int .i64 i2, .int .i64 i3, .slice A1 n1 c1], .agg #[.int .u8 i4, .int .u8 i5]] W fun e W' => e = .returned (.bool true) ∧ Below W.heap.size W W' := by
  obtain ⟨φ, κ, R, hr⟩ := rows_entry ht [(A0, n0, c0, rows eN l0), (A1, n1, c1, rows eN l1)] (fun x hx => by
    simp only [List.mem_cons, List.not_mem_nil, or_false] at hx
    rcases hx with rfl | rfl
    · exact ⟨r0, no_all (rows_no (f := eN) l0)⟩
    · exact ⟨r1, no_all (rows_no (f := eN) l1)⟩)
  obtain ⟨e0, o0⟩ := hr 0 _ rfl
  obtain ⟨e1, o1⟩ := hr 1 _ rfl
  simp only [List.length_cons, List.length_nil, List.map_cons, List.map_nil, Nat.reduceAdd] at e0 o0 e1 o1
  refine ((by obtain ⟨Q0, rfl⟩ := Int.eq_ofNat_of_zero_le b4.1; obtain ⟨Q1, rfl⟩ := Int.eq_ofNat_of_zero_le b5.1; exact turned_c n0 c0 n1 c1 Q0 Q1 i0 i1 i2 i3 l0 l1 hn0 hn1 (by omega) (by omega) : Fc Tryd.prog 16 [mV 1 n0 c0 i0 i1, mV 2 n1 c1 i2 i3, .agg #[.int .u8 i4, .int .u8 i5]] (Hp 3 (m2 l0 l1)) (.bool true) (Hp 3 (m2 l0 l1)))).enter R ?_ ?_ rfl
  · intro x hx
    simp only [List.mem_cons, List.not_mem_nil, or_false] at hx
    rcases hx with rfl | rfl | rfl
    · exact ⟨ok_noAddr _ _ (.int .i64 i0) rfl, ok_noAddr _ _ (.int .i64 i1) rfl, o0, trivial⟩
    · exact ⟨ok_noAddr _ _ (.int .i64 i2) rfl, ok_noAddr _ _ (.int .i64 i3) rfl, o1, trivial⟩
    · exact ok_noAddr _ _ _ rfl
  · show (#[.agg #[Vm.ren φ κ (.int .i64 i0), Vm.ren φ κ (.int .i64 i1), Vm.ren φ κ (.slice (some ⟨1, 0, none⟩) n0 c0)], .agg #[Vm.ren φ κ (.int .i64 i2), Vm.ren φ κ (.int .i64 i3), Vm.ren φ κ (.slice (some ⟨2, 0, none⟩) n1 c1)], .agg #[Vm.ren φ κ (.int .u8 i4), Vm.ren φ κ (.int .u8 i5)]] : Array Value) = _
    simp only [e0, e1, ren_noAddr _ _ (Value.int .i64 i0) rfl, ren_noAddr _ _ (Value.int .i64 i1) rfl, ren_noAddr _ _ (Value.int .i64 i2) rfl, ren_noAddr _ _ (Value.int .i64 i3) rfl, ren_noAddr _ _ (Value.int .u8 i4) rfl, ren_noAddr _ _ (Value.int .u8 i5) rfl]

set_option maxRecDepth 100000 in
theorem rq_lifted (os : Os) (started : os.Started) (H : Type) (enc : TypeId × Value → H) :
    ReturnsInHanded {} Tryd.checked os 16 .any (fun w args => (Rows.recordTurnedSpec.pre enc Tryd.prog Tryd.f16 [] false w args ∧ laidMetH Tryd.prog laidR w) ∧ sizedMet enc Tryd.prog Tryd.f16 (OpenSpec.ofChange Rows.recordTurnedSpec) false w args) (Rows.recordTurnedSpec.post enc Tryd.prog Tryd.f16 false true false false) := by
  refine returnsInHanded_of_change_and (C := Tryd.checked) (X := fun w _ => laidMetH Tryd.prog laidR w) (fun _ _ _ hh h => h.of_heap hh) rq_own started (by kernel_rfl) Tryd.func16
    (ChangeSpec.witness_shaped (enc := enc) (C := Tryd.checked) (os := os) (X := fun w _ => laidMetH Tryd.prog laidR w) false (World.doorLaid Tryd.prog 400 os) #[.agg #[.int .i64 0, .int .i64 0, .slice none 0 0], .agg #[.int .i64 0, .int .i64 0, .slice none 0 0], .agg #[.int .u8 0, .int .u8 0]] 8 rfl (World.shaped_of_RefB (by kernel_rfl) (by kernel_rfl)) (by kernel_rfl) (by kernel_rfl) (by kernel_rfl) (door_met os _)) ?_
  intro W base args ds gs before hval0 hW _ _ hL _
  have hval : ∀ (j : Nat) t v, Tryd.f16.params[j]? = some t → args[j]? = some v → Value.okWide Tryd.prog W .any base t v := hval0
  have hW' := hW
  obtain ⟨p, q, hA0, hV, rfl, hfz, hnd⟩ := hW
  have hA : DataW.TrodAll enc Tryd.prog W 0 (fun _ => true) true Tryd.f16.params.toList args.toList ds p := hA0
  rw [Tryd.params16] at hA hval
  obtain ⟨v0, vs0, d0, ds0, p0, q0, hargs, rfl, rfl, g0, r0⟩ := trodAll_cons hA
  obtain ⟨v1, vs1, d1, ds1, p1, q1, rfl, rfl, rfl, g1, r1⟩ := trodAll_cons r0
  obtain ⟨v2, vs2, d2, ds2, p2, q2, rfl, rfl, rfl, g2, r2⟩ := trodAll_cons r1
  obtain ⟨rfl, rfl, rfl⟩ := trodAll_nil r2
  obtain rfl : args = #[v0, v1, v2] := by cases args; simp_all
  obtain ⟨rfl, rfl⟩ := trodVars_none hV
  have k0 := g0
  have lt0 : ∀ x ∈ p0, x.block < W.heap.size := by obtain ⟨m, hm⟩ := k0; exact DataW.trod_lt m _ _ _ hm
  have k1 := g1
  have lt1 : ∀ x ∈ p1, x.block < W.heap.size := by obtain ⟨m, hm⟩ := k1; exact DataW.trod_lt m _ _ _ hm
  have k2 := g2
  have lt2 : ∀ x ∈ p2, x.block < W.heap.size := by obtain ⟨m, hm⟩ := k2; exact DataW.trod_lt m _ _ _ hm
  obtain ⟨cs0, rfl, hz0⟩ := okWide_struct Tryd.underlying56 (hval 0 56 v0 rfl rfl)
  obtain ⟨cl0⟩ := cs0
  obtain ⟨f0, hf0⟩ := g0
  have L0 := leaves_spec 9 56 _ (show leaves Tryd.prog 9 56 = some [3, 3, 54] by kernel_rfl) f0 _ _ hf0
  have hcl0 : cl0.length = 3 := by
    rw [show Tryd.prog.cellsOf 56 = 3 by kernel_rfl] at hz0
    simpa using hz0
  obtain ⟨i0, hi0, hw0⟩ := (L0 0 _ rfl).int u_int
  obtain ⟨i1, hi1, hw1⟩ := (L0 1 _ rfl).int u_int
  obtain ⟨vb0, fb0, yb0, hv0, ht0⟩ := L0 2 _ rfl
  simp only [Value.cells] at hi0 hi1 hv0
  have b0 : -9223372036854775808 ≤ i0 ∧ i0 ≤ 9223372036854775807 := by simp [Lit.wf, IntKind.min, IntKind.max, IntKind.signed, IntKind.bits] at hw0; omega
  have b1 : -9223372036854775808 ≤ i1 ∧ i1 ≤ 9223372036854775807 := by simp [Lit.wf, IntKind.min, IntKind.max, IntKind.signed, IntKind.bits] at hw1; omega
  obtain ⟨B0, m0, d0', l0, he0, hn0, hr0, hcp0, hx0⟩ := Row.of_trod mkI mkI_enc (f := 9) (ls := [3]) Tryd.underlying54 (by kernel_rfl) rfl (by omega) (by kernel_rfl) (fun lt hlt => by simp at hlt; subst hlt; exact u_int) ht0
  subst he0
  have hcs0 := rq_list3 hcl0 hi0 hi1 hv0
  subst hcs0
  obtain ⟨cs1, rfl, hz1⟩ := okWide_struct Tryd.underlying56 (hval 1 56 v1 rfl rfl)
  obtain ⟨cl1⟩ := cs1
  obtain ⟨f1, hf1⟩ := g1
  have L1 := leaves_spec 9 56 _ (show leaves Tryd.prog 9 56 = some [3, 3, 54] by kernel_rfl) f1 _ _ hf1
  have hcl1 : cl1.length = 3 := by
    rw [show Tryd.prog.cellsOf 56 = 3 by kernel_rfl] at hz1
    simpa using hz1
  obtain ⟨i2, hi2, hw2⟩ := (L1 0 _ rfl).int u_int
  obtain ⟨i3, hi3, hw3⟩ := (L1 1 _ rfl).int u_int
  obtain ⟨vb1, fb1, yb1, hv1, ht1⟩ := L1 2 _ rfl
  simp only [Value.cells] at hi2 hi3 hv1
  have b2 : -9223372036854775808 ≤ i2 ∧ i2 ≤ 9223372036854775807 := by simp [Lit.wf, IntKind.min, IntKind.max, IntKind.signed, IntKind.bits] at hw2; omega
  have b3 : -9223372036854775808 ≤ i3 ∧ i3 ≤ 9223372036854775807 := by simp [Lit.wf, IntKind.min, IntKind.max, IntKind.signed, IntKind.bits] at hw3; omega
  obtain ⟨B1, m1, d1', l1, he1, hn1, hr1, hcp1, hx1⟩ := Row.of_trod mkI mkI_enc (f := 9) (ls := [3]) Tryd.underlying54 (by kernel_rfl) rfl (by omega) (by kernel_rfl) (fun lt hlt => by simp at hlt; subst hlt; exact u_int) ht1
  subst he1
  have hcs1 := rq_list3 hcl1 hi2 hi3 hv1
  subst hcs1
  obtain ⟨cs2, rfl, hz2⟩ := okWide_array Tryd.underlying92 (hval 2 92 v2 rfl rfl)
  obtain ⟨cl2⟩ := cs2
  obtain ⟨f2, hf2⟩ := g2
  have L2 := leaves_spec 9 92 _ (show leaves Tryd.prog 9 92 = some [5, 5] by kernel_rfl) f2 _ _ hf2
  have hcl2 : cl2.length = 2 := by
    rw [show Tryd.prog.cellsOf 92 = 2 by kernel_rfl] at hz2
    simpa using hz2
  obtain ⟨i4, hi4, hw4⟩ := (L2 0 _ rfl).int u_u8
  obtain ⟨i5, hi5, hw5⟩ := (L2 1 _ rfl).int u_u8
  simp only [Value.cells] at hi4 hi5
  have b4 : 0 ≤ i4 ∧ i4 ≤ 255 := by simp [Lit.wf, IntKind.min, IntKind.max, IntKind.signed, IntKind.bits] at hw4; omega
  have b5 : 0 ≤ i5 ∧ i5 ≤ 255 := by simp [Lit.wf, IntKind.min, IntKind.max, IntKind.signed, IntKind.bits] at hw5; omega
  have hcs2 := rq_list2 hcl2 hi4 hi5
  subst hcs2
  clear hA0 hval0
  refine (rq_w _ _ _ l0 _ _ _ l1 i0 i1 i2 i3 i4 i5 W (tab_of_laid hL) hn0 hr0 hn1 hr1 b0 b1 b2 b3 b4 b5).mono fun e W' ⟨he, bel⟩ => ?_
  subst he
  exact ⟨_, rfl, _, _, _, [], _, [], hW', trodAll_mk1 (shut_bool u_bool _), (trodAll_cons_mk (Below.trod rq_laidOut (by kernel_rfl) (of_decide_eq_true (by kernel_rfl)) k0 bel lt0) (trodAll_cons_mk (Below.trod rq_laidOut (by kernel_rfl) (of_decide_eq_true (by kernel_rfl)) k1 bel lt1) (trodAll_cons_mk (Below.trod rq_laidOut (by kernel_rfl) (of_decide_eq_true (by kernel_rfl)) k2 bel lt2) trodAll_mk0))), rfl, bel.frame _, fun h => by cases h⟩

theorem rq_over : Rows.recordTurnedRow.holds Tryd.pinned (OpenSpec.ofChange Rows.recordTurnedSpec) :=
  OpenClaim.holds_of_wide 16 Tryd.f16 rfl rfl rfl rfl rfl rfl rfl ⟨rfl, rfl, rfl, rfl, rfl⟩ rfl rfl rfl rfl rfl (by kernel_rfl) Tryd.func16 (by kernel_rfl)
    (of_decide_eq_true (by kernel_rfl)) (by unfold Func.isWrapper; first | (rw [if_pos (by decide +kernel)]; kernel_rfl) | (rw [if_neg (by decide +kernel)]; exact ⟨rfl, rfl⟩))
    (fun os started H enc _ => rq_lifted os started H enc)

theorem recordTurned_holds : Rows.RecordTurnedCardSaid :=
  Claim7.holds_tied_plain_at .later [] [.sentinel, .data] true (true, "e87fbf8d0569de18fdda475ebe8eff6b1cab71c00a2475e5fe16bbd14d38446e") true
    rq_over (fun _ h => by cases h) (by kernel_rfl) (fun _ h => by cases h) recordTurned_row_tie rfl ⟨rfl, rfl⟩ (by kernel_rfl) rfl
    (fun f fn hf hfn => by
      obtain rfl : f = 16 := Option.some.inj ((show Tryd.prog.funcNamed "boule/boulelaw06.RecordTurned" = some 16 by kernel_rfl).symm.trans hf) |>.symm
      obtain rfl : fn = Tryd.f16 := (Option.some.inj (Tryd.func16.symm.trans hfn)).symm
      exact ⟨by kernel_rfl, fun j t ht => by
        rw [Tryd.params16] at ht
        have hm : t ∈ [56, 56, 92] := by simpa using Array.mem_of_getElem? ht
        have hall : ([56, 56, 92].all fun u => !Tryd.prog.wantsStandIn u) = true := by kernel_rfl
        exact (show Tryd.prog.wantsStandIn t = false by simpa using List.all_eq_true.1 hall t hm)⟩)
    (by kernel_rfl)
end Go.Proofs.YtgjokhodccacoaaDoor
