/-
  CropAccounts holds: for all stretches, every saw and whatever is tried the law returns true, and its arguments stay as they are.
  Conditions: none.
-/
import Derived.Test.YtlkfcbdbieenhaaRows
import Derived.Test.YtlkfcbdbieenhaaCropA
import Derived.Test.YtlkfcbdbieenhaaOpn
import Derived.WalkKit
import Derived.ProofKit
import Derived.OpenShut
import Derived.ShutString
import Derived.ChangeOld
import Derived.Below
namespace Go.Proofs.Ytlkfcbdbieenhaa
open Go.ChangeShapes Go.WideShapes Go.ChangeAt Go.RowKit

theorem ca_own : ownKnob Try.prog.godebug = none := by kernel_rfl
theorem ca_laidOut : laidOutB Try.prog = true := by kernel_rfl

def mkII (l : List Int) : Int × Int := (l.getD 0 0, l.getD 1 0)
theorem mkII_enc (l : List Int) (h : l.length = 2) : eII (mkII l) = l.map (Value.int .i64) := by
  match l, h with
  | [_, _], _ => rfl
theorem list3 {l : List Value} {a0 a1 a2 : Value} (h : l.length = 3) (h0 : l[0]? = some a0) (h1 : l[1]? = some a1) (h2 : l[2]? = some a2) : l = [a0, a1, a2] := by
  match l, h with
  | [_, _, _], _ =>
    simp at h0 h1 h2
    subst h0 h1 h2
    rfl
theorem list6 {l : List Value} {a0 a1 a2 a3 a4 a5 : Value} (h : l.length = 6) (h0 : l[0]? = some a0) (h1 : l[1]? = some a1) (h2 : l[2]? = some a2) (h3 : l[3]? = some a3) (h4 : l[4]? = some a4) (h5 : l[5]? = some a5) : l = [a0, a1, a2, a3, a4, a5] := by
  match l, h with
  | [_, _, _, _, _, _], _ =>
    simp at h0 h1 h2 h3 h4 h5
    subst h0 h1 h2 h3 h4 h5
    rfl
theorem u_u8 : Try.prog.underlying 5 = some (.int .u8) := by kernel_rfl
theorem u_int : Try.prog.underlying 3 = some (.int .i64) := by kernel_rfl
theorem u_bool : Try.prog.underlying 4 = some .bool := by kernel_rfl

set_option maxRecDepth 100000 in
theorem ca_lifted (os : Os) (started : os.Started) (H : Type) (enc : TypeId × Value → H) :
    ReturnsInHanded {} Try.checked os 4 .any (Rows.cropAccountsSpec.pre6 enc Try.prog Try.f4 Rows.cropAccountsRow.domain false) (Rows.cropAccountsSpec.post enc Try.prog Try.f4 false true false false) := by
  refine returnsInHanded_of_change (C := Try.checked) ca_own started (by kernel_rfl) Try.func4
    (ChangeSpec.witness6 (enc := enc) (C := Try.checked) false ⟨#[], #[.slice none 0 0, .agg #[.int .i64 0, .int .i64 0, .int .i64 0], .agg #[.slice none 0 0, .int .i64 0, .int .i64 0, .int .i64 0, .int .i64 0, .int .u8 0]], []⟩ 8 (by kernel_rfl) (by kernel_rfl) (by kernel_rfl) (by kernel_rfl)) ?_
  intro W base args ds gs before hval0 hW hcnd _
  have hval : ∀ (j : Nat) t v, Try.f4.params[j]? = some t → args[j]? = some v → Value.okWide Try.prog W .any base t v := hval0
  have hW' := hW
  obtain ⟨p, q, hA0, hV, rfl, hfz, hnd⟩ := hW
  have hA : DataW.TrodAll enc Try.prog W 0 (fun _ => true) true Try.f4.params.toList args.toList ds p := hA0
  rw [Try.params4] at hA hval
  obtain ⟨v0, vs0, d0, ds0, p0, q0, hargs, rfl, rfl, h0, r0⟩ := trodAll_cons hA
  obtain ⟨v1, vs1, d1, ds1, p1, q1, rfl, rfl, rfl, h1, r1⟩ := trodAll_cons r0
  obtain ⟨v2, vs2, d2, ds2, p2, q2, rfl, rfl, rfl, h2, r2⟩ := trodAll_cons r1
  obtain ⟨rfl, rfl, rfl⟩ := trodAll_nil r2
  obtain rfl : args = #[v0, v1, v2] := by cases args; simp_all
  obtain ⟨rfl, rfl⟩ := trodVars_none hV
  have k0 := h0
  have lt0 : ∀ x ∈ p0, x.block < W.heap.size := by obtain ⟨m, hm⟩ := k0; exact DataW.trod_lt m _ _ _ hm
  have k1 := h1
  have lt1 : ∀ x ∈ p1, x.block < W.heap.size := by obtain ⟨m, hm⟩ := k1; exact DataW.trod_lt m _ _ _ hm
  have k2 := h2
  have lt2 : ∀ x ∈ p2, x.block < W.heap.size := by obtain ⟨m, hm⟩ := k2; exact DataW.trod_lt m _ _ _ hm
  obtain ⟨A, n, cap, rfl⟩ := okWide_slice Try.underlying22 (hval 0 22 v0 rfl rfl)
  obtain ⟨f0, hf0⟩ := h0
  obtain ⟨A1, n1, cap1, ns, he, hsn, _⟩ := Sl.of_trod mkII mkII_enc (f := 9) (ls := [3, 3]) Try.underlying22 (by kernel_rfl) rfl (by omega) (by kernel_rfl) (fun lt hlt => by simp at hlt; subst hlt; exact u_int) (by simpa [Value.cells] using hf0)
  have he' : Value.slice A n cap = .slice A1 n1 cap1 := by simpa using he
  injection he' with e1 e2 e3
  subst e1 e2 e3
  obtain ⟨cs, rfl, hsz⟩ := okWide_struct Try.underlying24 (hval 1 24 v1 rfl rfl)
  obtain ⟨cl⟩ := cs
  obtain ⟨f1, hf1⟩ := h1
  have hlv : leaves Try.prog 9 24 = some [3, 3, 3] := by kernel_rfl
  have L := leaves_spec 9 24 _ hlv f1 _ _ hf1
  have hcl : cl.length = 3 := by
    have h9 : Try.prog.cellsOf 24 = 3 := by kernel_rfl
    rw [h9] at hsz
    simpa using hsz
  obtain ⟨i1, hi1, _⟩ := (L 0 _ rfl).int u_int
  obtain ⟨i2, hi2, _⟩ := (L 1 _ rfl).int u_int
  obtain ⟨i3, hi3, _⟩ := (L 2 _ rfl).int u_int
  simp only [Value.cells] at hi1 hi2 hi3
  obtain ⟨cs2, rfl, hsz2⟩ := okWide_struct Try.underlying42 (hval 2 42 v2 rfl rfl)
  obtain ⟨cl2⟩ := cs2
  obtain ⟨f2, hf2⟩ := h2
  have hlv2 : leaves Try.prog 9 42 = some [29, 3, 3, 3, 3, 5] := by kernel_rfl
  have L2 := leaves_spec 9 42 _ hlv2 f2 _ _ hf2
  have hcl2 : cl2.length = 6 := by
    have h9 : Try.prog.cellsOf 42 = 6 := by kernel_rfl
    rw [h9] at hsz2
    simpa using hsz2
  obtain ⟨vb, fb, yb, hvb, htb⟩ := L2 0 _ rfl
  obtain ⟨j1, hj1, _⟩ := (L2 1 _ rfl).int u_int
  obtain ⟨j2, hj2, _⟩ := (L2 2 _ rfl).int u_int
  obtain ⟨j3, hj3, _⟩ := (L2 3 _ rfl).int u_int
  obtain ⟨j4, hj4, _⟩ := (L2 4 _ rfl).int u_int
  obtain ⟨j5, hj5, hw5⟩ := (L2 5 _ rfl).int u_u8
  simp only [Value.cells] at hvb hj1 hj2 hj3 hj4 hj5
  obtain ⟨A2, n2, cap2, ms, rfl, hsm, _⟩ := Sl.of_trod mkII mkII_enc (f := 9) (ls := [3, 3]) Try.underlying29 (by kernel_rfl) rfl (by omega) (by kernel_rfl) (fun lt hlt => by simp at hlt; subst hlt; exact u_int) htb
  have hcs2 : cl2 = [.slice A2 n2 cap2, .int .i64 j1, .int .i64 j2, .int .i64 j3, .int .i64 j4, .int .u8 j5] := list6 hcl2 hvb hj1 hj2 hj3 hj4 hj5
  have hp5 : 0 ≤ j5 ∧ j5 ≤ 255 := by simp [Lit.wf, IntKind.min, IntKind.max, IntKind.bits, IntKind.signed] at hw5; omega
  have hcs : cl = [.int .i64 i1, .int .i64 i2, .int .i64 i3] := list3 hcl hi1 hi2 hi3
  subst hcs hcs2
  clear hA0 hval0
  refine (accounts_any A n cap W.heap.size ns i1 i2 i3 A2 n2 cap2 W.heap.size ms j1 j2 j3 j4 j5 W hsn (Nat.le_refl _) hsm (Nat.le_refl _) hp5).mono fun e W' ⟨he, bel⟩ => ?_
  subst he
  exact ⟨_, rfl, _, _, _, [], _, [], hW', trodAll_mk1 (shut_bool u_bool _), (trodAll_cons_mk (Below.trod ca_laidOut (by kernel_rfl) (of_decide_eq_true (by kernel_rfl)) k0 bel lt0) (trodAll_cons_mk (Below.trod ca_laidOut (by kernel_rfl) (of_decide_eq_true (by kernel_rfl)) k1 bel lt1) (trodAll_cons_mk (Below.trod ca_laidOut (by kernel_rfl) (of_decide_eq_true (by kernel_rfl)) k2 bel lt2) trodAll_mk0))), rfl, bel.frame _, fun h => by cases h⟩

theorem ca_over : Rows.cropAccountsRow.holds Try.pinned (OpenSpec.ofChange Rows.cropAccountsSpec) :=
  OpenClaim.holds_of_wide 4 Try.f4 rfl rfl rfl rfl rfl rfl rfl ⟨rfl, rfl, rfl, rfl, rfl⟩ rfl rfl rfl rfl rfl (by kernel_rfl) Try.func4 (by kernel_rfl)
    (of_decide_eq_true (by kernel_rfl)) (by unfold Func.isWrapper; first | (rw [if_pos (by decide +kernel)]; kernel_rfl) | (rw [if_neg (by decide +kernel)]; exact ⟨rfl, rfl⟩))
    (fun os started H enc _ => ca_lifted os started H enc)

theorem cropAccounts_holds : Rows.CropAccountsSaid := ca_over
end Go.Proofs.Ytlkfcbdbieenhaa
