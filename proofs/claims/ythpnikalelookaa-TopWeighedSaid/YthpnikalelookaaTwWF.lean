/-
  TopWeighed, fifteenth walks: copies, and the document's example.
-/
import Derived.Test.YthpnikalelookaaTwWE
namespace Go.Proofs.Ythpnikalelookaa
open Go.RowKit

theorem elLot : Elem Try.prog 22 38 9 72 := Elem.of (z := .agg #[.int .i64 0, .int .i64 0, .int .i64 0, .int .i64 0, .int .i64 0, .int .i64 0, .int .i64 0, .int .i64 0, .int .i64 0]) (by kernel_rfl) (by kernel_rfl) rfl (by decide)
theorem elR : Elem Try.prog 39 24 2 16 := Elem.of (z := .agg #[.int .i64 0, .int .i64 0]) (by kernel_rfl) (by kernel_rfl) rfl (by decide)
theorem elI : Elem Try.prog 29 3 1 8 := Elem.of (z := .int .i64 0) (by kernel_rfl) (by kernel_rfl) rfl (by decide)

/-- A call that hands back a new row which reads as xs, and leaves what was there. -/
def GivesOwn {α : Type} (enc : α → List Value) (c : Nat) (e : TypeId) (xs : List α) (w : World) (en : Ending) (w' : World) : Prop :=
  ∃ A n cap, en = .returned (.slice A n cap) ∧ Own enc c e w.heap.size w' A n cap xs ∧ Below w.heap.size w w'

set_option maxHeartbeats 400000 in
theorem lotsOf_any (A : Option Addr) (n cap B : Nat) (l : List LotP) (w : World) (h : Sl eLot 9 w B A n l) (hB : B ≤ w.heap.size) (hn : n ≤ 1000) :
    Calls Try.prog 5 #[.slice A n cap] w (GivesOwn eLot 9 38 l w) := by
  have hm : (0 : Nat) + n ≤ maxLen := by unfold maxLen; omega
  go_enter Try.func5, Try.ntmps5
  go_wp2_with (at_builtin; refine wpList_append_any (base := w.heap.size) encLot elLot rfl _ _ rfl (some ⟨w.heap.size, 0, none⟩) 0 0 [] rfl (Own.lit encLot (Nat.le_refl _) (Nat.zero_le _) rfl) B A n cap l rfl (h.below ((Below.refl _ _).alloc hB _)) hm (by omega) (by simp) ?_; intro A' cap' w1 hown hgrow hat)
  go_ret
  refine ⟨A', n, cap', rfl, by simpa using hown, ((Below.refl _ _).alloc (Nat.le_refl _) _).grown hgrow (by simp) (fun k e => by simp at e; omega)⟩

def lotX : LotP := ⟨5, 100, 2, 3, 0, 0, 0, 0, 0⟩
theorem weighedX {e : Ending} (h : Weighed [lotX] [3] 0 0 0 0 0 0 0 0 e) : e = .returned (.tuple #[.agg #[.int .i64 300, .int .i64 6, .int .i64 9, .int .i64 0, .int .i64 0, .int .i64 0, .int .i64 0], .int .i64 0]) := by
  rcases h with ⟨-, -, he⟩ | ⟨hno, -⟩
  · exact he
  · exact absurd ⟨by decide, by decide⟩ hno

set_option maxRecDepth 100000 in
theorem eqX (w : World) : Sem.run Try.prog (Op.equalIn 9999 26 (.agg #[.int .i64 6, .int .i64 9, .int .i64 0, .int .i64 0, .int .i64 0, .int .i64 0]) (.agg #[.int .i64 6, .int .i64 9, .int .i64 0, .int .i64 0, .int .i64 0, .int .i64 0])) w = .ok true w := by kernel_rfl
set_option maxRecDepth 100000 in
theorem eq0 (w : World) : Sem.run Try.prog (Op.equalIn 9999 26 (.agg #[.int .i64 0, .int .i64 0, .int .i64 0, .int .i64 0, .int .i64 0, .int .i64 0]) (.agg #[.int .i64 0, .int .i64 0, .int .i64 0, .int .i64 0, .int .i64 0, .int .i64 0])) w = .ok true w := by kernel_rfl

set_option maxRecDepth 100000 in
set_option maxHeartbeats 1000000 in
theorem weighed_any (w : World) :
    Calls Try.prog 4 #[] w fun e w' => e = .returned (.bool true) ∧ Below w.heap.size w w' := by
  go_enter Try.func4, Try.ntmps4
  go_wp2_with fail
  refine (scale_any 2 3 3 (by decide) (by decide) (by decide) (by decide) (by decide) _).mono ?_
  rintro e w1 ⟨rfl, hb1⟩
  have HB1 := Lib.hid (hb1.alloc hb1.size (.cells #[.int .i64 6, .int .i64 9] 24))
  have K1 := Lib.hid (Bk.newAt w1 #[.int .i64 6, .int .i64 9] 24 w1.heap.size rfl)
  have hz1 := hb1.size
  clear hb1
  go_wp2_with fail
  have hs1 := Sl.new encLot (w1.alloc (.cells #[.int .i64 6, .int .i64 9] 24)) 38 (w1.heap.size + 1) (by simp) [lotX] #[.int .i64 5, .int .i64 100, .int .i64 2, .int .i64 3, .int .i64 0, .int .i64 0, .int .i64 0, .int .i64 0, .int .i64 0] (by simp [maxLen]) rfl
  have hs2 := Sl.new enc1 ((w1.alloc (.cells #[.int .i64 6, .int .i64 9] 24)).alloc (.cells #[.int .i64 5, .int .i64 100, .int .i64 2, .int .i64 3, .int .i64 0, .int .i64 0, .int .i64 0, .int .i64 0, .int .i64 0] 38)) 3 (w1.heap.size + 1 + 1) (by simp) [3] #[.int .i64 3] (by simp [maxLen]) rfl
  have hs1' := hs1.below ((Below.refl (w1.heap.size + 1 + 1) ((w1.alloc (.cells #[.int .i64 6, .int .i64 9] 24)).alloc (.cells #[.int .i64 5, .int .i64 100, .int .i64 2, .int .i64 3, .int .i64 0, .int .i64 0, .int .i64 0, .int .i64 0, .int .i64 0] 38))).alloc (by simp) (.cells #[.int .i64 3] 3))
  refine (bigWeigh_any (some ⟨w1.heap.size + 1, 0, none⟩) 1 1 (w1.heap.size + 1 + 1) [lotX] (some ⟨w1.heap.size + 1 + 1, 0, none⟩) 1 1 (w1.heap.size + 1 + 1 + 1) [3] 0 0 0 0 0 0 0 0 _ hs1' (by simp) (by omega) hs2 (by simp) (by omega)).mono ?_
  rintro e w2 ⟨hw, hb2⟩
  obtain rfl := weighedX hw
  have k1 := ((K1.out.alloc (.cells #[.int .i64 5, .int .i64 100, .int .i64 2, .int .i64 3, .int .i64 0, .int .i64 0, .int .i64 0, .int .i64 0, .int .i64 0] 38)).alloc (.cells #[.int .i64 3] 3)).below hb2 (by simp <;> omega)
  have hbb := ((HB1.out.alloc (by simp; omega) (.cells #[.int .i64 5, .int .i64 100, .int .i64 2, .int .i64 3, .int .i64 0, .int .i64 0, .int .i64 0, .int .i64 0, .int .i64 0] 38)).alloc (by simp; omega) (.cells #[.int .i64 3] 3)).trans (hb2.mono (by simp; omega))
  have c0 : w2.cell? ⟨w1.heap.size, 0, none⟩ = some (.int .i64 6) := k1.cell rfl
  have c1 : w2.cell? ⟨w1.heap.size, 1, none⟩ = some (.int .i64 9) := k1.cell rfl
  have hz2 := hb2.size
  simp at hz2
  have q0 : w1.heap.size < w2.heap.size := by omega
  have HBB := Lib.hid hbb
  clear hw hb2 k1 hs1 hs2 hs1' K1 HB1 hbb
  go_wp2
  simp only [eqX, Result.andThen]
  go_wp2
  go_ret
  exact ⟨rfl, HBB.out.alloc (by omega) _⟩
end Go.Proofs.Ythpnikalelookaa
