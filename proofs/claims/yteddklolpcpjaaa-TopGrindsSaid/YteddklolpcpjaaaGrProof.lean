/-
  TopGrinds holds: for every puller and every run the law returns true, and its arguments stay as they are.
  Conditions: none.
-/
import Derived.Test.YteddklolpcpjaaaGrL
import Derived.Test.YteddklolpcpjaaaRows
import Derived.Test.YteddklolpcpjaaaOpn
import Derived.WalkKit
import Derived.ProofKit
import Derived.OpenShut
import Derived.ShutString
import Derived.ChangeOld
import Derived.Below
set_option linter.unusedSimpArgs false
set_option linter.unusedVariables false
namespace Go.Proofs.Yteddklolpcpjaaa
open Go.ChangeShapes Go.WideShapes Go.ChangeAt Go.RowKit Go.Vm

theorem tg_own : ownKnob Try.prog.godebug = none := by kernel_rfl
theorem tg_laidOut : laidOutB Try.prog = true := by kernel_rfl
theorem u_hp : Try.prog.underlying 45 = some (.int .i64) := by kernel_rfl
theorem u_ph : Try.prog.underlying 79 = some (.int .i64) := by kernel_rfl
theorem u_int : Try.prog.underlying 3 = some (.int .i64) := by kernel_rfl
/-- Cells that are integers. -/
theorem ints_of : ∀ {cl : List Value}, (∀ j, j < cl.length → ∃ i : Int, cl[j]? = some (.int .i64 i)) → ∃ ps : List Int, cl = rows eI ps
  | [], _ => ⟨[], rfl⟩
  | v :: r, h => by
    obtain ⟨i, hi⟩ := h 0 (by simp)
    simp only [List.getElem?_cons_zero, Option.some.injEq] at hi
    subst hi
    obtain ⟨ps, hp⟩ := ints_of (cl := r) fun j hj => by
      have := h (j + 1) (by simp; omega)
      rwa [List.getElem?_cons_succ] at this
    exact ⟨i :: ps, by rw [hp]; rfl⟩
theorem u_bool : Try.prog.underlying 4 = some .bool := by kernel_rfl
def mkT (l : List Int) : St := ⟨l.getD 0 0, l.getD 1 0, l.getD 2 0, l.getD 3 0, l.getD 4 0, l.getD 5 0, l.getD 6 0, l.getD 7 0⟩
theorem mkT_enc (l : List Int) (h : l.length = 8) : eT (mkT l) = l.map (Value.int .i64) := by
  match l, h with
  | [_, _, _, _, _, _, _, _], _ => rfl
def mkM (l : List Int) : Sm := ⟨l.getD 0 0, l.getD 1 0, l.getD 2 0⟩
theorem mkM_enc (l : List Int) (h : l.length = 3) : eM (mkM l) = l.map (Value.int .i64) := by
  match l, h with
  | [_, _, _], _ => rfl
def mkX (l : List Int) : Int × Int := (l.getD 0 0, l.getD 1 0)
theorem mkX_enc (l : List Int) (h : l.length = 2) : eII (mkX l) = l.map (Value.int .i64) := by
  match l, h with
  | [_, _], _ => rfl
theorem tg_list4 {l : List Value} {a0 : Value} {a1 : Value} {a2 : Value} {a3 : Value} (h : l.length = 4) (h0 : l[0]? = some a0) (h1 : l[1]? = some a1) (h2 : l[2]? = some a2) (h3 : l[3]? = some a3) : l = [a0, a1, a2, a3] := by
  match l, h with
  | [_, _, _, _], _ =>
    simp at h0 h1 h2 h3
    subst h0 h1 h2 h3
    rfl

/-- The law, called in any world. -/
theorem tg_w (A0 : Option Addr) (n0 c0 : Nat) (l0 : List St) (A1 : Option Addr) (n1 c1 : Nat) (l1 : List Sm) (A2 : Option Addr) (n2 c2 : Nat) (l2 : List (Int × Int)) (ps : List Int) (hps : ps.length = 117) (i1 : Int) (W : World) (hn0 : l0.length = n0) (r0 : Row W A0 n0 c0 (rows eT l0)) (hn1 : l1.length = n1) (r1 : Row W A1 n1 c1 (rows eM l1)) (hn2 : l2.length = n2) (r2 : Row W A2 n2 c2 (rows eII l2)) (b1 : -9223372036854775808 ≤ i1 ∧ i1 ≤ 9223372036854775807) :
    Calls Try.prog 4 #[.agg ⟨rows eI ps⟩, .agg #[.slice A0 n0 c0, .int .i64 i1, .slice A1 n1 c1, .slice A2 n2 c2]] W fun e W' => e = .returned (.bool true) ∧ Below W.heap.size W W' := by
  obtain ⟨φ, κ, R, hr⟩ := rows_entry [(A0, n0, c0, rows eT l0), (A1, n1, c1, rows eM l1), (A2, n2, c2, rows eII l2)] (fun x hx => by
    simp only [List.mem_cons, List.not_mem_nil, or_false] at hx
    rcases hx with rfl | rfl | rfl
    · exact ⟨r0, no_all (rows_no (f := eT) l0)⟩
    · exact ⟨r1, no_all (rows_no (f := eM) l1)⟩
    · exact ⟨r2, no_all (rows_no (f := eII) l2)⟩)
  obtain ⟨e0, o0⟩ := hr 0 _ rfl
  obtain ⟨e1, o1⟩ := hr 1 _ rfl
  obtain ⟨e2, o2⟩ := hr 2 _ rfl
  simp only [List.length_cons, List.length_nil, List.map_cons, List.map_nil, Nat.reduceAdd] at e0 o0 e1 o1 e2 o2
  refine (grinds_law ps l0 l1 l2 i1 n0 c0 n1 c1 n2 c2 hps hn0 hn1 hn2).enter R ?_ ?_ rfl
  · intro x hx
    simp only [List.mem_cons, List.not_mem_nil, or_false] at hx
    rcases hx with rfl | rfl
    · exact ok_noAddr _ _ _ (rows_no (f := eI) ps)
    · exact ⟨o0, ok_noAddr _ _ (.int .i64 i1) rfl, o1, o2, trivial⟩
  · show (#[Vm.ren φ κ (.agg ⟨rows eI ps⟩), .agg #[Vm.ren φ κ (.slice (some ⟨1, 0, none⟩) n0 c0), Vm.ren φ κ (.int .i64 i1), Vm.ren φ κ (.slice (some ⟨2, 0, none⟩) n1 c1), Vm.ren φ κ (.slice (some ⟨3, 0, none⟩) n2 c2)]] : Array Value) = _
    simp only [e0, e1, e2, ren_noAddr _ _ (Value.agg ⟨rows eI ps⟩) (rows_no (f := eI) ps), ren_noAddr _ _ (Value.int .i64 i1) rfl]

set_option maxRecDepth 100000 in
theorem tg_lifted (os : Os) (started : os.Started) (H : Type) (enc : TypeId × Value → H) :
    ReturnsInHanded {} Try.checked os 4 .any (Rows.topGrindsSpec.pre6 enc Try.prog Try.f4 Rows.topGrindsRow.domain false) (Rows.topGrindsSpec.post enc Try.prog Try.f4 false true false false) := by
  refine returnsInHanded_of_change (C := Try.checked) tg_own started (by kernel_rfl) Try.func4
    (ChangeSpec.witness6 (enc := enc) (C := Try.checked) false ⟨#[], #[.agg #[.int .i64 0, .int .i64 0, .int .i64 0, .int .i64 0, .int .i64 0, .int .i64 0, .int .i64 0, .int .i64 0, .int .i64 0, .int .i64 0, .int .i64 0, .int .i64 0, .int .i64 0, .int .i64 0, .int .i64 0, .int .i64 0, .int .i64 0, .int .i64 0, .int .i64 0, .int .i64 0, .int .i64 0, .int .i64 0, .int .i64 0, .int .i64 0, .int .i64 0, .int .i64 0, .int .i64 0, .int .i64 0, .int .i64 0, .int .i64 0, .int .i64 0, .int .i64 0, .int .i64 0, .int .i64 0, .int .i64 0, .int .i64 0, .int .i64 0, .int .i64 0, .int .i64 0, .int .i64 0, .int .i64 0, .int .i64 0, .int .i64 0, .int .i64 0, .int .i64 0, .int .i64 0, .int .i64 0, .int .i64 0, .int .i64 0, .int .i64 0, .int .i64 0, .int .i64 0, .int .i64 0, .int .i64 0, .int .i64 0, .int .i64 0, .int .i64 0, .int .i64 0, .int .i64 0, .int .i64 0, .int .i64 0, .int .i64 0, .int .i64 0, .int .i64 0, .int .i64 0, .int .i64 0, .int .i64 0, .int .i64 0, .int .i64 0, .int .i64 0, .int .i64 0, .int .i64 0, .int .i64 0, .int .i64 0, .int .i64 0, .int .i64 0, .int .i64 0, .int .i64 0, .int .i64 0, .int .i64 0, .int .i64 0, .int .i64 0, .int .i64 0, .int .i64 0, .int .i64 0, .int .i64 0, .int .i64 0, .int .i64 0, .int .i64 0, .int .i64 0, .int .i64 0, .int .i64 0, .int .i64 0, .int .i64 0, .int .i64 0, .int .i64 0, .int .i64 0, .int .i64 0, .int .i64 0, .int .i64 0, .int .i64 0, .int .i64 0, .int .i64 0, .int .i64 0, .int .i64 0, .int .i64 0, .int .i64 0, .int .i64 0, .int .i64 0, .int .i64 0, .int .i64 0, .int .i64 0, .int .i64 0, .int .i64 0, .int .i64 0, .int .i64 0, .int .i64 0], .agg #[.slice none 0 0, .int .i64 0, .slice none 0 0, .slice none 0 0]], []⟩ 8 (by kernel_rfl) (by kernel_rfl) (by kernel_rfl) (by kernel_rfl)) ?_
  intro W base args ds gs before hval0 hW hcnd _
  have hval : ∀ (j : Nat) t v, Try.f4.params[j]? = some t → args[j]? = some v → Value.okWide Try.prog W .any base t v := hval0
  have hW' := hW
  obtain ⟨p, q, hA0, hV, rfl, hfz, hnd⟩ := hW
  have hA : DataW.TrodAll enc Try.prog W 0 (fun _ => true) true Try.f4.params.toList args.toList ds p := hA0
  rw [Try.params4] at hA hval
  obtain ⟨v0, vs0, d0, ds0, p0, q0, hargs, rfl, rfl, g0, r0⟩ := trodAll_cons hA
  obtain ⟨v1, vs1, d1, ds1, p1, q1, rfl, rfl, rfl, g1, r1⟩ := trodAll_cons r0
  obtain ⟨rfl, rfl, rfl⟩ := trodAll_nil r1
  obtain rfl : args = #[v0, v1] := by cases args; simp_all
  obtain ⟨rfl, rfl⟩ := trodVars_none hV
  have k0 := g0
  have lt0 : ∀ x ∈ p0, x.block < W.heap.size := by obtain ⟨m, hm⟩ := k0; exact DataW.trod_lt m _ _ _ hm
  have k1 := g1
  have lt1 : ∀ x ∈ p1, x.block < W.heap.size := by obtain ⟨m, hm⟩ := k1; exact DataW.trod_lt m _ _ _ hm
  obtain ⟨cs0p, rfl, hz0p⟩ := okWide_struct Try.underlying30 (hval 0 30 v0 rfl rfl)
  obtain ⟨cl0p⟩ := cs0p
  obtain ⟨f0p, hf0p⟩ := g0
  have L0p := leaves_spec 9 30 _ (show leaves Try.prog 9 30 = some (List.replicate 117 3) by kernel_rfl) f0p _ _ hf0p
  have hcl0p : cl0p.length = 117 := by
    rw [show Try.prog.cellsOf 30 = 117 by kernel_rfl] at hz0p
    simpa using hz0p
  obtain ⟨ps, rfl⟩ := ints_of (cl := cl0p) (fun j hj => by
    obtain ⟨i, hi, _⟩ := (L0p j 3 (by rw [List.getElem?_replicate, if_pos (by omega)])).int u_int
    exact ⟨i, by simpa [Value.cells] using hi⟩)
  have hps : ps.length = 117 := by rw [rows_len (f := eI)] at hcl0p; omega
  obtain ⟨cs1, rfl, hz1⟩ := okWide_struct Try.underlying35 (hval 1 35 v1 rfl rfl)
  obtain ⟨cl1⟩ := cs1
  obtain ⟨f1, hf1⟩ := g1
  have L1 := leaves_spec 9 35 _ (show leaves Try.prog 9 35 = some [31, 3, 32, 33] by kernel_rfl) f1 _ _ hf1
  have hcl1 : cl1.length = 4 := by
    rw [show Try.prog.cellsOf 35 = 4 by kernel_rfl] at hz1
    simpa using hz1
  obtain ⟨vb0, fb0, yb0, hv0, ht0⟩ := L1 0 _ rfl
  obtain ⟨i1, hi1, hw1⟩ := (L1 1 _ rfl).int u_int
  obtain ⟨vb1, fb1, yb1, hv1, ht1⟩ := L1 2 _ rfl
  obtain ⟨vb2, fb2, yb2, hv2, ht2⟩ := L1 3 _ rfl
  simp only [Value.cells] at hv0 hi1 hv1 hv2
  have b1 : -9223372036854775808 ≤ i1 ∧ i1 ≤ 9223372036854775807 := by simp [Lit.wf, IntKind.min, IntKind.max, IntKind.signed, IntKind.bits] at hw1; omega
  obtain ⟨B0, m0, d0', l0, he0, hn0, hr0, hcp0, hx0⟩ := Row.of_trod mkT mkT_enc (f := 9) (ls := [3, 79, 3, 3, 3, 3, 3, 3]) Try.underlying31 (by kernel_rfl) rfl (by omega) (by kernel_rfl) (fun lt hlt => by simp at hlt; rcases hlt with rfl | rfl | rfl | rfl | rfl | rfl | rfl | rfl <;> first | exact u_int | exact u_ph) ht0
  subst he0
  obtain ⟨B1, m1, d1', l1, he1, hn1, hr1, hcp1, hx1⟩ := Row.of_trod mkM mkM_enc (f := 9) (ls := [3, 3, 3]) Try.underlying32 (by kernel_rfl) rfl (by omega) (by kernel_rfl) (fun lt hlt => by simp at hlt; subst hlt; exact u_int) ht1
  subst he1
  obtain ⟨B2, m2, d2', l2, he2, hn2, hr2, hcp2, hx2⟩ := Row.of_trod mkX mkX_enc (f := 9) (ls := [3, 45]) Try.underlying33 (by kernel_rfl) rfl (by omega) (by kernel_rfl) (fun lt hlt => by simp at hlt; rcases hlt with rfl | rfl <;> first | exact u_hp | exact u_int) ht2
  subst he2
  have hcs1 := tg_list4 hcl1 hv0 hi1 hv1 hv2
  subst hcs1
  clear hA0 hval0
  refine (tg_w _ _ _ l0 _ _ _ l1 _ _ _ l2 ps hps i1 W hn0 hr0 hn1 hr1 hn2 hr2 b1).mono fun e W' ⟨he, bel⟩ => ?_
  subst he
  exact ⟨_, rfl, _, _, _, [], _, [], hW', trodAll_mk1 (shut_bool u_bool _), (trodAll_cons_mk (Below.trod tg_laidOut (by kernel_rfl) (of_decide_eq_true (by kernel_rfl)) k0 bel lt0) (trodAll_cons_mk (Below.trod tg_laidOut (by kernel_rfl) (of_decide_eq_true (by kernel_rfl)) k1 bel lt1) trodAll_mk0)), rfl, bel.frame _, fun h => by cases h⟩

theorem tg_over : Rows.topGrindsRow.holds Try.pinned (OpenSpec.ofChange Rows.topGrindsSpec) :=
  OpenClaim.holds_of_wide 4 Try.f4 rfl rfl rfl rfl rfl rfl rfl ⟨rfl, rfl, rfl, rfl, rfl⟩ rfl rfl rfl rfl rfl (by kernel_rfl) Try.func4 (by kernel_rfl)
    (of_decide_eq_true (by kernel_rfl)) (by unfold Func.isWrapper; first | (rw [if_pos (by decide +kernel)]; kernel_rfl) | (rw [if_neg (by decide +kernel)]; exact ⟨rfl, rfl⟩))
    (fun os started H enc _ => tg_lifted os started H enc)

theorem topGrinds_holds : Rows.TopGrindsSaid := tg_over
end Go.Proofs.Yteddklolpcpjaaa
