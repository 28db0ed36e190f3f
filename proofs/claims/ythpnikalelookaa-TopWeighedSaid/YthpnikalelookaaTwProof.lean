/-
  TopWeighed holds: for every recipe and all numbers of pieces the law returns true, and its arguments stay as they are.
  Conditions: none.
-/
import Derived.Test.YthpnikalelookaaRows
import Derived.Test.YthpnikalelookaaTwLaw
import Derived.Test.YthpnikalelookaaOpn
import Derived.WalkKit
import Derived.ProofKit
import Derived.OpenShut
import Derived.ShutString
import Derived.ChangeOld
import Derived.Below
namespace Go.Proofs.Ythpnikalelookaa
open Go.ChangeShapes Go.WideShapes Go.ChangeAt Go.RowKit

theorem tw_own : ownKnob Try.prog.godebug = none := by kernel_rfl
theorem tw_laidOut : laidOutB Try.prog = true := by kernel_rfl

def mkLot (l : List Int) : LotP := ⟨l.getD 0 0, l.getD 1 0, l.getD 2 0, l.getD 3 0, l.getD 4 0, l.getD 5 0, l.getD 6 0, l.getD 7 0, l.getD 8 0⟩
theorem mkLot_enc (l : List Int) (h : l.length = 9) : eLot (mkLot l) = l.map (Value.int .i64) := by
  match l, h with
  | [_, _, _, _, _, _, _, _, _], _ => rfl
theorem mkI_enc (l : List Int) (h : l.length = 1) : eI (l.getD 0 0) = l.map (Value.int .i64) := by
  match l, h with
  | [_], _ => rfl
theorem list9 {l : List Value} {a0 a1 a2 a3 a4 a5 a6 a7 a8 : Value} (h : l.length = 9) (h0 : l[0]? = some a0) (h1 : l[1]? = some a1) (h2 : l[2]? = some a2) (h3 : l[3]? = some a3) (h4 : l[4]? = some a4) (h5 : l[5]? = some a5) (h6 : l[6]? = some a6) (h7 : l[7]? = some a7) (h8 : l[8]? = some a8) : l = [a0, a1, a2, a3, a4, a5, a6, a7, a8] := by
  match l, h with
  | [_, _, _, _, _, _, _, _, _], _ =>
    simp at h0 h1 h2 h3 h4 h5 h6 h7 h8
    subst h0 h1 h2 h3 h4 h5 h6 h7 h8
    rfl
theorem u_int : Try.prog.underlying 3 = some (.int .i64) := by kernel_rfl
theorem u_bool : Try.prog.underlying 4 = some .bool := by kernel_rfl

set_option maxRecDepth 100000 in
theorem tw_lifted (os : Os) (started : os.Started) (H : Type) (enc : TypeId × Value → H) :
    ReturnsInHanded {} Try.checked os 3 .any (Rows.topWeighedSpec.pre6 enc Try.prog Try.f3 Rows.topWeighedRow.domain false) (Rows.topWeighedSpec.post enc Try.prog Try.f3 false true false false) := by
  refine returnsInHanded_of_change (C := Try.checked) tw_own started (by kernel_rfl) Try.func3
    (ChangeSpec.witness6 (enc := enc) (C := Try.checked) false ⟨#[], #[.agg #[.slice none 0 0, .int .i64 0, .int .i64 0, .int .i64 0, .int .i64 0, .int .i64 0, .int .i64 0, .int .i64 0, .int .i64 0], .slice none 0 0], []⟩ 8 (by kernel_rfl) (by kernel_rfl) (by kernel_rfl) (by kernel_rfl)) ?_
  intro W base args ds gs before hval0 hW hcnd _
  have hval : ∀ (j : Nat) t v, Try.f3.params[j]? = some t → args[j]? = some v → Value.okWide Try.prog W .any base t v := hval0
  have hW' := hW
  obtain ⟨p, q, hA0, hV, rfl, hfz, hnd⟩ := hW
  have hA : DataW.TrodAll enc Try.prog W 0 (fun _ => true) true Try.f3.params.toList args.toList ds p := hA0
  rw [Try.params3] at hA hval
  obtain ⟨v0, vs0, d0, ds0, p0, q0, hargs, rfl, rfl, h0, r0⟩ := trodAll_cons hA
  obtain ⟨v1, vs1, d1, ds1, p1, q1, rfl, rfl, rfl, h1, r1⟩ := trodAll_cons r0
  obtain ⟨rfl, rfl, rfl⟩ := trodAll_nil r1
  obtain rfl : args = #[v0, v1] := by cases args; simp_all
  obtain ⟨rfl, rfl⟩ := trodVars_none hV
  have k0 := h0
  have lt0 : ∀ x ∈ p0, x.block < W.heap.size := by obtain ⟨m, hm⟩ := k0; exact DataW.trod_lt m _ _ _ hm
  have k1 := h1
  have lt1 : ∀ x ∈ p1, x.block < W.heap.size := by obtain ⟨m, hm⟩ := k1; exact DataW.trod_lt m _ _ _ hm
  obtain ⟨cs, rfl, hsz⟩ := okWide_struct Try.underlying28 (hval 0 28 v0 rfl rfl)
  obtain ⟨cl⟩ := cs
  obtain ⟨f0, hf0⟩ := h0
  have hlv : leaves Try.prog 9 28 = some [22, 3, 3, 3, 3, 3, 3, 3, 3] := by kernel_rfl
  have L := leaves_spec 9 28 _ hlv f0 _ _ hf0
  have hcl : cl.length = 9 := by
    have h9 : Try.prog.cellsOf 28 = 9 := by kernel_rfl
    rw [h9] at hsz
    simpa using hsz
  obtain ⟨c0, fu, y0, hc0, ht0⟩ := L 0 _ rfl
  obtain ⟨i1, hi1, _⟩ := (L 1 _ rfl).int u_int
  obtain ⟨i2, hi2, _⟩ := (L 2 _ rfl).int u_int
  obtain ⟨i3, hi3, _⟩ := (L 3 _ rfl).int u_int
  obtain ⟨i4, hi4, _⟩ := (L 4 _ rfl).int u_int
  obtain ⟨i5, hi5, _⟩ := (L 5 _ rfl).int u_int
  obtain ⟨i6, hi6, _⟩ := (L 6 _ rfl).int u_int
  obtain ⟨i7, hi7, _⟩ := (L 7 _ rfl).int u_int
  obtain ⟨i8, hi8, _⟩ := (L 8 _ rfl).int u_int
  simp only [Value.cells] at hc0 hi1 hi2 hi3 hi4 hi5 hi6 hi7 hi8
  obtain ⟨A, n, cap, l, rfl, hsl, _⟩ := Sl.of_trod mkLot mkLot_enc (f := 9) (ls := [3, 3, 3, 3, 3, 3, 3, 3, 3]) Try.underlying22 (by kernel_rfl) rfl (by omega) (by kernel_rfl) (fun lt hlt => by simp at hlt; subst hlt; exact u_int) ht0
  obtain ⟨a2, n2, cap2, rfl⟩ := okWide_slice Try.underlying29 (hval 1 29 v1 rfl rfl)
  obtain ⟨f1, hf1⟩ := h1
  obtain ⟨A2, n3, cap3, ns, he, hsn, _⟩ := Sl.of_trod (fun l => l.getD 0 0) mkI_enc (f := 9) (ls := [3]) Try.underlying29 (by kernel_rfl) rfl (by omega) (by kernel_rfl) (fun lt hlt => by simp at hlt; subst hlt; exact u_int) (by simpa [Value.cells] using hf1)
  have he' : Value.slice a2 n2 cap2 = .slice A2 n3 cap3 := by simpa using he
  injection he' with e1 e2 e3
  subst e1 e2 e3
  have hcs : cl = [.slice A n cap, .int .i64 i1, .int .i64 i2, .int .i64 i3, .int .i64 i4, .int .i64 i5, .int .i64 i6, .int .i64 i7, .int .i64 i8] := by
    exact list9 hcl hc0 hi1 hi2 hi3 hi4 hi5 hi6 hi7 hi8
  subst hcs
  clear hA0 hval0
  refine (law_any A n cap W.heap.size l a2 n2 cap2 W.heap.size ns i1 i2 i3 i4 i5 i6 i7 i8 W hsl (Nat.le_refl _) hsn (Nat.le_refl _)).mono fun e W' ⟨he, bel⟩ => ?_
  subst he
  exact ⟨_, rfl, _, _, _, [], _, [], hW', trodAll_mk1 (shut_bool u_bool _), (trodAll_cons_mk (Below.trod tw_laidOut (by kernel_rfl) (of_decide_eq_true (by kernel_rfl)) k0 bel lt0) (trodAll_cons_mk (Below.trod tw_laidOut (by kernel_rfl) (of_decide_eq_true (by kernel_rfl)) k1 bel lt1) trodAll_mk0)), rfl, bel.frame _, fun h => by cases h⟩

theorem tw_over : Rows.topWeighedRow.holds Try.pinned (OpenSpec.ofChange Rows.topWeighedSpec) :=
  OpenClaim.holds_of_wide 3 Try.f3 rfl rfl rfl rfl rfl rfl rfl ⟨rfl, rfl, rfl, rfl, rfl⟩ rfl rfl rfl rfl rfl (by kernel_rfl) Try.func3 (by kernel_rfl)
    (of_decide_eq_true (by kernel_rfl)) (by unfold Func.isWrapper; first | (rw [if_pos (by decide +kernel)]; kernel_rfl) | (rw [if_neg (by decide +kernel)]; exact ⟨rfl, rfl⟩))
    (fun os started H enc _ => tw_lifted os started H enc)

theorem topWeighed_holds : Rows.TopWeighedSaid := tw_over
end Go.Proofs.Ythpnikalelookaa
