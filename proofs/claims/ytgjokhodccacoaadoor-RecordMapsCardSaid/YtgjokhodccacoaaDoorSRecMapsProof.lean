import Derived.Test.YtgjokhodccacoaaDoorSRecX7
import Derived.Test.YtgjokhodccacoaaDoorSMe
import Derived.Test.YtgjokhodccacoaaDoorSRecLaid
import Derived.Test.YtgjokhodccacoaaDoorTie
import Derived.Test.YtgjokhodccacoaaDoorCards
import Derived.SevenTiedAt
import Derived.Test.YtgjokhodccacoaaDoorRows
import Derived.Test.YtgjokhodccacoaaDoorSOpn
import Derived.WalkKit
import Derived.ProofKit
import Derived.OpenShut
import Derived.ShutString
import Derived.ChangeOld
import Derived.Below
set_option linter.unusedSimpArgs false
set_option linter.unusedVariables false
namespace Go.Proofs.YtgjokhodccacoaaDoor
open Go.ChangeShapes Go.WideShapes Go.ChangeAt Go.RowKit Go.Vm
theorem rm_own : ownKnob Tryd.prog.godebug = none := by kernel_rfl
theorem rm_laidOut : laidOutB Tryd.prog = true := by kernel_rfl
theorem u_int : Tryd.prog.underlying 3 = some (.int .i64) := by kernel_rfl
theorem u_bool : Tryd.prog.underlying 4 = some .bool := by kernel_rfl
def mkI (l : List Int) : Int := l.getD 0 0
theorem mkI_enc (l : List Int) (h : l.length = 1) : eN (mkI l) = l.map (Value.int .i64) := by
 match l, h with
 | [_], _ => rfl
theorem rm_list3 {l : List Value} {a0 : Value} {a1 : Value} {a2 : Value} (h : l.length = 3) (h0 : l[0]? = some a0) (h1 : l[1]? = some a1) (h2 : l[2]? = some a2) : l = [a0, a1, a2] := by
 match l, h with
 | [_, _, _], _ =>
  simp at h0 h1 h2
  subst h0 h1 h2
  rfl
theorem rm_w (A0 : Option Addr) (n0 c0 : Nat) (l0 : List Int) (i0 : Int) (i1 : Int) (W : World) (ht : Tab W) (hn0 : l0.length = n0) (r0 : Row W A0 n0 c0 (rows eN l0)) (b0 : -9223372036854775808 ≤ i0 ∧ i0 ≤ 9223372036854775807) (b1 : -9223372036854775808 ≤ i1 ∧ i1 ≤ 9223372036854775807) :
    Calls Tryd.prog 8 #[.agg #[.int .i64 i0, .int .i64 i1, .slice A0 n0 c0]] W fun e W' => e = .returned (.bool true) ∧ Below W.heap.size W W' := by
 obtain ⟨φ, κ, R, hr⟩ := rows_entry ht [(A0, n0, c0, rows eN l0)] (fun x hx => by
  simp only [List.mem_cons, List.not_mem_nil, or_false] at hx
  rcases hx with rfl
  ·exact ⟨r0, no_all (rows_no (f := eN) l0)⟩)
 obtain ⟨e0, o0⟩ := hr 0 _ rfl
 simp only [List.length_cons, List.length_nil, List.map_cons, List.map_nil, Nat.reduceAdd] at e0 o0
 refine (maps_c n0 c0 i0 i1 l0 hn0).enter R ?_ ?_ rfl
 ·intro x hx
  simp only [List.mem_cons, List.not_mem_nil, or_false] at hx
  rcases hx with rfl
  ·exact ⟨ok_noAddr _ _ (.int .i64 i0) rfl, ok_noAddr _ _ (.int .i64 i1) rfl, o0, trivial⟩
 ·show (#[.agg #[Vm.ren φ κ (.int .i64 i0), Vm.ren φ κ (.int .i64 i1), Vm.ren φ κ (.slice (some ⟨1, 0, none⟩) n0 c0)]] : Array Value) = _
  simp only [e0, ren_noAddr _ _ (Value.int .i64 i0) rfl, ren_noAddr _ _ (Value.int .i64 i1) rfl]
set_option maxRecDepth 100000 in
theorem rm_lifted (os : Os) (started : os.Started) (H : Type) (enc : TypeId × Value → H) :
    ReturnsInHanded {} Tryd.checked os 8 .any (fun w args => (Rows.recordMapsSpec.pre enc Tryd.prog Tryd.f8 [] false w args ∧ laidMetH Tryd.prog laidR w) ∧ sizedMet enc Tryd.prog Tryd.f8 (OpenSpec.ofChange Rows.recordMapsSpec) false w args) (Rows.recordMapsSpec.post enc Tryd.prog Tryd.f8 false true false false) := by
 refine returnsInHanded_of_change_and (C := Tryd.checked) (X := fun w _ => laidMetH Tryd.prog laidR w) (fun _ _ _ hh h => h.of_heap hh) rm_own started (by kernel_rfl) Tryd.func8
  (ChangeSpec.witness_shaped (enc := enc) (C := Tryd.checked) (os := os) (X := fun w _ => laidMetH Tryd.prog laidR w) false (World.doorLaid Tryd.prog 400 os) #[.agg #[.int .i64 0, .int .i64 0, .slice none 0 0]] 8 rfl (World.shaped_of_RefB (by kernel_rfl) (by kernel_rfl)) (by kernel_rfl) (by kernel_rfl) (by kernel_rfl) (door_met os _)) ?_
 intro W base args ds gs before hval0 hW _ _ hL _
 have hval : ∀ (j : Nat) t v, Tryd.f8.params[j]? = some t → args[j]? = some v → Value.okWide Tryd.prog W .any base t v := hval0
 have hW' := hW
 obtain ⟨p, q, hA0, hV, rfl, hfz, hnd⟩ := hW
 have hA : DataW.TrodAll enc Tryd.prog W 0 (fun _ => true) true Tryd.f8.params.toList args.toList ds p := hA0
 rw [Tryd.params8] at hA hval
 obtain ⟨v0, vs0, d0, ds0, p0, q0, hargs, rfl, rfl, g0, r0⟩ := trodAll_cons hA
 obtain ⟨rfl, rfl, rfl⟩ := trodAll_nil r0
 obtain rfl : args = #[v0] := by cases args; simp_all
 obtain ⟨rfl, rfl⟩ := trodVars_none hV
 have k0 := g0
 have lt0 : ∀ x ∈ p0, x.block < W.heap.size := by obtain ⟨m, hm⟩ := k0; exact DataW.trod_lt m _ _ _ hm
 obtain ⟨cs0, rfl, hz0⟩ := okWide_struct Tryd.underlying56 (hval 0 56 v0 rfl rfl)
 obtain ⟨cl0⟩ := cs0
 obtain ⟨f0, hf0⟩ := g0
 have L0 := leaves_spec 9 56 _ (show leaves Tryd.prog 9 56 = some [3, 3, 54] by kernel_rfl) f0 _ _ hf0
 have hcl0 : cl0.length = 3 := by
  rw [show Tryd.prog.cellsOf 56 = 3 by kernel_rfl] at hz0
  simpa using hz0
 obtain ⟨i0, hi0, hw0⟩ := (L0 0 _ rfl).int u_int
 obtain ⟨i1, hi1, hw1⟩ := (L0 1 _ rfl).int u_int
 obtain ⟨vb0, fb0, yb0, hv0, ht0⟩ := L0 2 _ rfl
 simp only [Value.cells] at hi0 hi1 hv0
 have b0 : -9223372036854775808 ≤ i0 ∧ i0 ≤ 9223372036854775807 := by simp [Lit.wf, IntKind.min, IntKind.max, IntKind.signed, IntKind.bits] at hw0; omega
 have b1 : -9223372036854775808 ≤ i1 ∧ i1 ≤ 9223372036854775807 := by simp [Lit.wf, IntKind.min, IntKind.max, IntKind.signed, IntKind.bits] at hw1; omega
 obtain ⟨B0, m0, d0', l0, he0, hn0, hr0, hcp0, hx0⟩ := Row.of_trod mkI mkI_enc (f := 9) (ls := [3]) Tryd.underlying54 (by kernel_rfl) rfl (by omega) (by kernel_rfl) (fun lt hlt => by simp at hlt; subst hlt; exact u_int) ht0
 subst he0
 have hcs0 := rm_list3 hcl0 hi0 hi1 hv0
 subst hcs0
 clear hA0 hval0
 refine (rm_w _ _ _ l0 i0 i1 W (tab_of_laid hL) hn0 hr0 b0 b1).mono fun e W' ⟨he, bel⟩ => ?_
 subst he
 exact ⟨_, rfl, _, _, _, [], _, [], hW', trodAll_mk1 (shut_bool u_bool _), (trodAll_cons_mk (Below.trod rm_laidOut (by kernel_rfl) (of_decide_eq_true (by kernel_rfl)) k0 bel lt0) trodAll_mk0), rfl, bel.frame _, fun h => by cases h⟩
theorem rm_over : Rows.recordMapsRow.holds Tryd.pinned (OpenSpec.ofChange Rows.recordMapsSpec) :=
 OpenClaim.holds_of_wide 8 Tryd.f8 rfl rfl rfl rfl rfl rfl rfl ⟨rfl, rfl, rfl, rfl, rfl⟩ rfl rfl rfl rfl rfl (by kernel_rfl) Tryd.func8 (by kernel_rfl)
  (of_decide_eq_true (by kernel_rfl)) (by unfold Func.isWrapper; first | (rw [if_pos (by decide +kernel)]; kernel_rfl) | (rw [if_neg (by decide +kernel)]; exact ⟨rfl, rfl⟩))
  (fun os started H enc _ => rm_lifted os started H enc)
theorem recordMaps_holds : Rows.RecordMapsCardSaid :=
 Claim7.holds_tied_plain_at .later [] [.sentinel, .data] true (true, "e87fbf8d0569de18fdda475ebe8eff6b1cab71c00a2475e5fe16bbd14d38446e") true
  rm_over (fun _ h => by cases h) (by kernel_rfl) (fun _ h => by cases h) recordMaps_row_tie rfl ⟨rfl, rfl⟩ (by kernel_rfl) rfl
  (fun f fn hf hfn => by
   obtain rfl : f = 8 := Option.some.inj ((show Tryd.prog.funcNamed "boule/boulelaw06.RecordMaps" = some 8 by kernel_rfl).symm.trans hf) |>.symm
   obtain rfl : fn = Tryd.f8 := (Option.some.inj (Tryd.func8.symm.trans hfn)).symm
   exact ⟨by kernel_rfl, fun j t ht => by
    rw [Tryd.params8] at ht
    have hm : t ∈ [56] := by simpa using Array.mem_of_getElem? ht
    have hall : ([56].all fun u => !Tryd.prog.wantsStandIn u) = true := by kernel_rfl
    exact (show Tryd.prog.wantsStandIn t = false by simpa using List.all_eq_true.1 hall t hm)⟩)
  (by kernel_rfl)
end Go.Proofs.YtgjokhodccacoaaDoor
