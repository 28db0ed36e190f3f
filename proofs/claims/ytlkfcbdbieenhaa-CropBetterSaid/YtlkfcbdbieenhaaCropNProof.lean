/-
  CropBetter holds: for all stretches, every saw and every number the law returns true, and its arguments stay as they are.
  Conditions: none.
-/
import Derived.Test.YtlkfcbdbieenhaaRows
import Derived.Test.YtlkfcbdbieenhaaCropN2
import Derived.Test.YtlkfcbdbieenhaaOpn
import Derived.WalkKit
import Derived.ProofKit
import Derived.OpenShut
import Derived.ShutString
import Derived.ChangeOld
import Derived.Below
set_option linter.unusedSimpArgs false
set_option linter.unusedVariables false
namespace Go.Proofs.Ytlkfcbdbieenhaa
open Go.ChangeShapes Go.WideShapes Go.ChangeAt Go.RowKit Go.Vm

theorem cv_own : ownKnob Try.prog.godebug = none := by kernel_rfl
theorem cv_laidOut : laidOutB Try.prog = true := by kernel_rfl

def mkII (l : List Int) : Int × Int := (l.getD 0 0, l.getD 1 0)
theorem mkII_enc (l : List Int) (h : l.length = 2) : eII (mkII l) = l.map (Value.int .i64) := by
  match l, h with
  | [_, _], _ => rfl
theorem list3 {l : List Value} {a0 a1 a2 : Value} (h : l.length = 3) (h0 : l[0]? = some a0) (h1 : l[1]? = some a1) (h2 : l[2]? = some a2) : l = [a0, a1, a2] := by
  match l, h with
  | [_, _, _], _ =>
    simp at h0 h1 h2
    subst h0 h1 h2
    rfl
theorem u_int : Try.prog.underlying 3 = some (.int .i64) := by kernel_rfl
theorem u_u8 : Try.prog.underlying 5 = some (.int .u8) := by kernel_rfl
theorem u_bool : Try.prog.underlying 4 = some .bool := by kernel_rfl

/-- The law, called in any world. -/
theorem better_w (A : Option Addr) (n cap : Nat) (l : List St) (i1 i2 i3 by0 : Int) (W : World) (hn : l.length = n) (r : Row W A n cap (rows eII l)) (hby : 0 ≤ by0 ∧ by0 ≤ 255) :
    Calls Try.prog 5 #[.slice A n cap, .agg #[.int .i64 i1, .int .i64 i2, .int .i64 i3], .int .u8 by0] W fun e W' => e = .returned (.bool true) ∧ Below W.heap.size W W' := by
  obtain ⟨φ, κ, R, hr⟩ := rows_entry [(A, n, cap, rows eII l)] (fun x hx => by
    obtain rfl : x = (A, n, cap, rows eII l) := by simpa using hx
    exact ⟨r, no_all (rows_no (f := eII) l)⟩)
  obtain ⟨e1, o1⟩ := hr 0 _ rfl
  refine (better_c n cap l i1 i2 i3 by0 hn hby).enter R ?_ ?_ rfl
  · intro x hx
    simp only [List.mem_cons, List.not_mem_nil, or_false] at hx
    rcases hx with rfl | rfl | rfl
    · exact o1
    · exact ok_noAddr _ _ _ rfl
    · exact ok_noAddr _ _ _ rfl
  · simp only [List.map_cons, List.map_nil]
    rw [ren_noAddr _ _ (sawV i1 i2 i3) rfl, ren_noAddr _ _ (Value.int .u8 by0) rfl]
    exact congrArg (fun x => (#[x, _, _] : Array Value)) e1

set_option maxRecDepth 100000 in
theorem cv_lifted (os : Os) (started : os.Started) (H : Type) (enc : TypeId × Value → H) :
    ReturnsInHanded {} Try.checked os 5 .any (Rows.cropBetterSpec.pre6 enc Try.prog Try.f5 Rows.cropBetterRow.domain false) (Rows.cropBetterSpec.post enc Try.prog Try.f5 false true false false) := by
  refine returnsInHanded_of_change (C := Try.checked) cv_own started (by kernel_rfl) Try.func5
    (ChangeSpec.witness6 (enc := enc) (C := Try.checked) false ⟨#[], #[.slice none 0 0, .agg #[.int .i64 0, .int .i64 0, .int .i64 0], .int .u8 0], []⟩ 8 (by kernel_rfl) (by kernel_rfl) (by kernel_rfl) (by kernel_rfl)) ?_
  intro W base args ds gs before hval0 hW hcnd _
  have hval : ∀ (j : Nat) t v, Try.f5.params[j]? = some t → args[j]? = some v → Value.okWide Try.prog W .any base t v := hval0
  have hW' := hW
  obtain ⟨p, q, hA0, hV, rfl, hfz, hnd⟩ := hW
  have hA : DataW.TrodAll enc Try.prog W 0 (fun _ => true) true Try.f5.params.toList args.toList ds p := hA0
  rw [Try.params5] at hA hval
  obtain ⟨v0, vs0, d0, ds0, p0, q0, hargs, rfl, rfl, h0, r0⟩ := trodAll_cons hA
  obtain ⟨v1, vs1, d1, ds1, p1, q1, rfl, rfl, rfl, h1, r1⟩ := trodAll_cons r0
  obtain ⟨v2, vs2, d2, ds2, p2, q2, rfl, rfl, rfl, h2, r2⟩ := trodAll_cons r1
  obtain ⟨rfl, rfl, rfl⟩ := trodAll_nil r2
  obtain rfl : args = #[v0, v1, v2] := by cases args; simp_all
  obtain ⟨rfl, rfl⟩ := trodVars_none hV
  have k0 := h0
  have lt0 : ∀ x ∈ p0, x.block < W.heap.size := by obtain ⟨m, hm⟩ := k0; exact DataW.trod_lt m _ _ _ hm
  have k1 := h1
  have lt1 : ∀ x ∈ p1, x.block < W.heap.size := by obtain ⟨m, hm⟩ := k1; exact DataW.trod_lt m _ _ _ hm
  have k2 := h2
  have lt2 : ∀ x ∈ p2, x.block < W.heap.size := by obtain ⟨m, hm⟩ := k2; exact DataW.trod_lt m _ _ _ hm
  obtain ⟨A, n, cap, rfl⟩ := okWide_slice Try.underlying22 (hval 0 22 v0 rfl rfl)
  obtain ⟨f0, hf0⟩ := h0
  obtain ⟨A1, n1, cap1, ns, he, hn, hrow, hncap, _⟩ := Row.of_trod mkII mkII_enc (f := 9) (ls := [3, 3]) Try.underlying22 (by kernel_rfl) rfl (by omega) (by kernel_rfl) (fun lt hlt => by simp at hlt; subst hlt; exact u_int) (by simpa [Value.cells] using hf0)
  have he' : Value.slice A n cap = .slice A1 n1 cap1 := by simpa using he
  injection he' with e1 e2 e3
  subst e1 e2 e3
  obtain ⟨cs, rfl, hsz⟩ := okWide_struct Try.underlying24 (hval 1 24 v1 rfl rfl)
  obtain ⟨cl⟩ := cs
  obtain ⟨f1, hf1⟩ := h1
  have hlv : leaves Try.prog 9 24 = some [3, 3, 3] := by kernel_rfl
  have L := leaves_spec 9 24 _ hlv f1 _ _ hf1
  have hcl : cl.length = 3 := by
    have h9 : Try.prog.cellsOf 24 = 3 := by kernel_rfl
    rw [h9] at hsz
    simpa using hsz
  obtain ⟨i1, hi1, _⟩ := (L 0 _ rfl).int u_int
  obtain ⟨i2, hi2, _⟩ := (L 1 _ rfl).int u_int
  obtain ⟨i3, hi3, _⟩ := (L 2 _ rfl).int u_int
  simp only [Value.cells] at hi1 hi2 hi3
  have hcs : cl = [.int .i64 i1, .int .i64 i2, .int .i64 i3] := list3 hcl hi1 hi2 hi3
  subst hcs
  obtain ⟨i4, rfl⟩ := okWide_int u_u8 (hval 2 5 v2 rfl rfl)
  obtain ⟨f2, hf2⟩ := h2
  have hlv2 : leaves Try.prog 9 5 = some [5] := by kernel_rfl
  obtain ⟨j4, hj4, hw4⟩ := (leaves_spec 9 5 _ hlv2 f2 _ _ hf2 0 _ rfl).int u_u8
  simp only [Value.cells] at hj4
  obtain rfl : i4 = j4 := by simpa using hj4
  have hby : 0 ≤ i4 ∧ i4 ≤ 255 := by
    simp [Lit.wf, IntKind.min, IntKind.max, IntKind.signed, IntKind.bits] at hw4
    omega
  clear hA0 hval0
  refine (better_w A n cap ns i1 i2 i3 i4 W hn hrow hby).mono fun e W' ⟨he, bel⟩ => ?_
  subst he
  exact ⟨_, rfl, _, _, _, [], _, [], hW', trodAll_mk1 (shut_bool u_bool _), (trodAll_cons_mk (Below.trod cv_laidOut (by kernel_rfl) (of_decide_eq_true (by kernel_rfl)) k0 bel lt0) (trodAll_cons_mk (Below.trod cv_laidOut (by kernel_rfl) (of_decide_eq_true (by kernel_rfl)) k1 bel lt1) (trodAll_cons_mk (Below.trod cv_laidOut (by kernel_rfl) (of_decide_eq_true (by kernel_rfl)) k2 bel lt2) trodAll_mk0))), rfl, bel.frame _, fun h => by cases h⟩

theorem cv_over : Rows.cropBetterRow.holds Try.pinned (OpenSpec.ofChange Rows.cropBetterSpec) :=
  OpenClaim.holds_of_wide 5 Try.f5 rfl rfl rfl rfl rfl rfl rfl ⟨rfl, rfl, rfl, rfl, rfl⟩ rfl rfl rfl rfl rfl (by kernel_rfl) Try.func5 (by kernel_rfl)
    (of_decide_eq_true (by kernel_rfl)) (by unfold Func.isWrapper; first | (rw [if_pos (by decide +kernel)]; kernel_rfl) | (rw [if_neg (by decide +kernel)]; exact ⟨rfl, rfl⟩))
    (fun os started H enc _ => cv_lifted os started H enc)

theorem cropBetter_holds : Rows.CropBetterSaid := cv_over
end Go.Proofs.Ytlkfcbdbieenhaa
