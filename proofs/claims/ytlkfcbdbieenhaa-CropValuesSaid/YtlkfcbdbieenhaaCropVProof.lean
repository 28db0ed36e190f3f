/-
  CropValues holds: for all stretches, every saw and all blocks the law returns true, and its arguments stay as they are.
  Conditions: none.
-/
import Derived.Test.YtlkfcbdbieenhaaRows
import Derived.Test.YtlkfcbdbieenhaaCropWM
import Derived.Test.YtlkfcbdbieenhaaOpn
import Derived.WalkKit
import Derived.ProofKit
import Derived.OpenShut
import Derived.ShutString
import Derived.ChangeOld
import Derived.Below
namespace Go.Proofs.Ytlkfcbdbieenhaa
open Go.ChangeShapes Go.WideShapes Go.ChangeAt Go.RowKit

theorem cv_own : ownKnob Try.prog.godebug = none := by kernel_rfl
theorem cv_laidOut : laidOutB Try.prog = true := by kernel_rfl

def mkII (l : List Int) : Int × Int := (l.getD 0 0, l.getD 1 0)
theorem mkII_enc (l : List Int) (h : l.length = 2) : eII (mkII l) = l.map (Value.int .i64) := by
  match l, h with
  | [_, _], _ => rfl
theorem list3 {l : List Value} {a0 a1 a2 : Value} (h : l.length = 3) (h0 : l[0]? = some a0) (h1 : l[1]? = some a1) (h2 : l[2]? = some a2) : l = [a0, a1, a2] := by
  match l, h with
  | [_, _, _], _ =>
    simp at h0 h1 h2
    subst h0 h1 h2
    rfl
theorem u_int : Try.prog.underlying 3 = some (.int .i64) := by kernel_rfl
theorem u_bool : Try.prog.underlying 4 = some .bool := by kernel_rfl

set_option maxRecDepth 100000 in
theorem cv_lifted (os : Os) (started : os.Started) (H : Type) (enc : TypeId × Value → H) :
    ReturnsInHanded {} Try.checked os 6 .any (Rows.cropValuesSpec.pre6 enc Try.prog Try.f6 Rows.cropValuesRow.domain false) (Rows.cropValuesSpec.post enc Try.prog Try.f6 false true false false) := by
  refine returnsInHanded_of_change (C := Try.checked) cv_own started (by kernel_rfl) Try.func6
    (ChangeSpec.witness6 (enc := enc) (C := Try.checked) false ⟨#[], #[.slice none 0 0, .agg #[.int .i64 0, .int .i64 0, .int .i64 0], .slice none 0 0], []⟩ 8 (by kernel_rfl) (by kernel_rfl) (by kernel_rfl) (by kernel_rfl)) ?_
  intro W base args ds gs before hval0 hW hcnd _
  have hval : ∀ (j : Nat) t v, Try.f6.params[j]? = some t → args[j]? = some v → Value.okWide Try.prog W .any base t v := hval0
  have hW' := hW
  obtain ⟨p, q, hA0, hV, rfl, hfz, hnd⟩ := hW
  have hA : DataW.TrodAll enc Try.prog W 0 (fun _ => true) true Try.f6.params.toList args.toList ds p := hA0
  rw [Try.params6] at hA hval
  obtain ⟨v0, vs0, d0, ds0, p0, q0, hargs, rfl, rfl, h0, r0⟩ := trodAll_cons hA
  obtain ⟨v1, vs1, d1, ds1, p1, q1, rfl, rfl, rfl, h1, r1⟩ := trodAll_cons r0
  obtain ⟨v2, vs2, d2, ds2, p2, q2, rfl, rfl, rfl, h2, r2⟩ := trodAll_cons r1
  obtain ⟨rfl, rfl, rfl⟩ := trodAll_nil r2
  obtain rfl : args = #[v0, v1, v2] := by cases args; simp_all
  obtain ⟨rfl, rfl⟩ := trodVars_none hV
  have k0 := h0
  have lt0 : ∀ x ∈ p0, x.block < W.heap.size := by obtain ⟨m, hm⟩ := k0; exact DataW.trod_lt m _ _ _ hm
  have k1 := h1
  have lt1 : ∀ x ∈ p1, x.block < W.heap.size := by obtain ⟨m, hm⟩ := k1; exact DataW.trod_lt m _ _ _ hm
  have k2 := h2
  have lt2 : ∀ x ∈ p2, x.block < W.heap.size := by obtain ⟨m, hm⟩ := k2; exact DataW.trod_lt m _ _ _ hm
  obtain ⟨A, n, cap, rfl⟩ := okWide_slice Try.underlying22 (hval 0 22 v0 rfl rfl)
  obtain ⟨f0, hf0⟩ := h0
  obtain ⟨A1, n1, cap1, ns, he, hsn, _⟩ := Sl.of_trod mkII mkII_enc (f := 9) (ls := [3, 3]) Try.underlying22 (by kernel_rfl) rfl (by omega) (by kernel_rfl) (fun lt hlt => by simp at hlt; subst hlt; exact u_int) (by simpa [Value.cells] using hf0)
  have he' : Value.slice A n cap = .slice A1 n1 cap1 := by simpa using he
  injection he' with e1 e2 e3
  subst e1 e2 e3
  obtain ⟨cs, rfl, hsz⟩ := okWide_struct Try.underlying24 (hval 1 24 v1 rfl rfl)
  obtain ⟨cl⟩ := cs
  obtain ⟨f1, hf1⟩ := h1
  have hlv : leaves Try.prog 9 24 = some [3, 3, 3] := by kernel_rfl
  have L := leaves_spec 9 24 _ hlv f1 _ _ hf1
  have hcl : cl.length = 3 := by
    have h9 : Try.prog.cellsOf 24 = 3 := by kernel_rfl
    rw [h9] at hsz
    simpa using hsz
  obtain ⟨i1, hi1, _⟩ := (L 0 _ rfl).int u_int
  obtain ⟨i2, hi2, _⟩ := (L 1 _ rfl).int u_int
  obtain ⟨i3, hi3, _⟩ := (L 2 _ rfl).int u_int
  simp only [Value.cells] at hi1 hi2 hi3
  obtain ⟨A2, n2, cap2, rfl⟩ := okWide_slice Try.underlying29 (hval 2 29 v2 rfl rfl)
  obtain ⟨f2, hf2⟩ := h2
  obtain ⟨A3, n3, cap3, ms, he3, hsm, _⟩ := Sl.of_trod mkII mkII_enc (f := 9) (ls := [3, 3]) Try.underlying29 (by kernel_rfl) rfl (by omega) (by kernel_rfl) (fun lt hlt => by simp at hlt; subst hlt; exact u_int) (by simpa [Value.cells] using hf2)
  have he3' : Value.slice A2 n2 cap2 = .slice A3 n3 cap3 := by simpa using he3
  injection he3' with e1 e2 e3
  subst e1 e2 e3
  have hcs : cl = [.int .i64 i1, .int .i64 i2, .int .i64 i3] := list3 hcl hi1 hi2 hi3
  subst hcs
  clear hA0 hval0
  refine (values_any A n cap W.heap.size ns i1 i2 i3 A2 n2 cap2 W.heap.size ms W hsn (Nat.le_refl _) hsm (Nat.le_refl _)).mono fun e W' ⟨he, bel⟩ => ?_
  subst he
  exact ⟨_, rfl, _, _, _, [], _, [], hW', trodAll_mk1 (shut_bool u_bool _), (trodAll_cons_mk (Below.trod cv_laidOut (by kernel_rfl) (of_decide_eq_true (by kernel_rfl)) k0 bel lt0) (trodAll_cons_mk (Below.trod cv_laidOut (by kernel_rfl) (of_decide_eq_true (by kernel_rfl)) k1 bel lt1) (trodAll_cons_mk (Below.trod cv_laidOut (by kernel_rfl) (of_decide_eq_true (by kernel_rfl)) k2 bel lt2) trodAll_mk0))), rfl, bel.frame _, fun h => by cases h⟩

theorem cv_over : Rows.cropValuesRow.holds Try.pinned (OpenSpec.ofChange Rows.cropValuesSpec) :=
  OpenClaim.holds_of_wide 6 Try.f6 rfl rfl rfl rfl rfl rfl rfl ⟨rfl, rfl, rfl, rfl, rfl⟩ rfl rfl rfl rfl rfl (by kernel_rfl) Try.func6 (by kernel_rfl)
    (of_decide_eq_true (by kernel_rfl)) (by unfold Func.isWrapper; first | (rw [if_pos (by decide +kernel)]; kernel_rfl) | (rw [if_neg (by decide +kernel)]; exact ⟨rfl, rfl⟩))
    (fun os started H enc _ => cv_lifted os started H enc)

theorem cropValues_holds : Rows.CropValuesSaid := cv_over
end Go.Proofs.Ytlkfcbdbieenhaa
