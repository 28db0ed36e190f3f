/-
  Chapter 11: slices.Clone of rules, in any world and by names.
-/
import Derived.Test.YtfmcdbcoljpomaaShopF3
import Derived.Test.YtfmcdbcoljpomaaApp
import Derived.Lib.SliceRun
set_option linter.unusedSimpArgs false
set_option linter.unusedVariables false
namespace Go.Proofs.Ytfmcdbcoljpomaa
open Go.RowKit Go.Vm
theorem encU : Enc eU 3 := fun x => ⟨rfl, fun u hu => by simp [eU] at hu; rcases hu with rfl | rfl | rfl <;> rfl⟩
theorem elU : Elem Try.prog 22 48 3 24 := Elem.of (by kernel_rfl) (z := .agg #[.int .i64 0, .int .i64 0, .int .i64 0]) (by kernel_rfl) rfl (by decide)
theorem un_slU : Try.prog.underlying 22 = some (.slice 48) := by kernel_rfl
set_option maxHeartbeats 400000 in
theorem cloneU_any (A : Option Addr) (n cap B : Nat) (l : List Ru) (w : World) (h : Sl eU 3 w B A n l) (hB : B ≤ w.heap.size) (hn : n ≤ 1000000) :
    Calls Try.prog 96 #[.slice A n cap] w fun en w' => ∃ A n cap, en = .returned (.slice A n cap) ∧ Own eU 3 48 w.heap.size w' A n cap l ∧ Below w.heap.size w w' := by
  have hm : (0 : Nat) + n ≤ maxLen := by unfold maxLen; omega
  have q22 : ∀ (w : World) (a : Option Addr) (n c n' c' : Nat), (Go.binOp .eql 22 (.slice a n c) (.slice none n' c')).run Try.prog w = .ok (.bool a.isNone) w := fun w a n c n' c' => Lib.run_eql_slice_nil w _ _ a n c n' c' un_slU
  cases A with
  | none =>
    have hl : l = [] := by
      rcases l with _ | ⟨x, l⟩
      · rfl
      · obtain ⟨b, off, e, _⟩ := h.2 (by simp)
        cases e
    subst hl
    go_enter Try.func96, Try.ntmps96
    go_wp2
    go_ret
    exact ⟨none, 0, 0, rfl, ⟨rfl, World.ownsRow_nil w _ _ _⟩, Below.refl _ _⟩
  | some a =>
    go_enter Try.func96, Try.ntmps96
    go_wp2_with (at_builtin; refine wpList_append_any (base := w.heap.size) encU elU rfl _ _ rfl (some ⟨w.heap.size, 0, none⟩) 0 0 [] rfl (Own.lit encU (Nat.le_refl _) (Nat.zero_le _) rfl) B (some a) n cap l rfl (h.below ((Below.refl _ _).alloc hB _)) hm (by omega) (by simp) ?_; intro A' cap' w1 hown hgrow hat)
    go_ret
    refine ⟨A', n, cap', rfl, by simpa using hown, ((Below.refl _ _).alloc (Nat.le_refl _) _).grown hgrow (by simp) (fun k e => by simp at e; omega)⟩
theorem clone_f {n cp k sz : Nat} {op : Bool} {rs : List Ru} (hn : rs.length = n) (hb : n ≤ 1000000) {h : AH} (hg : h.get k = some (.cells ⟨rows eU rs, sz, op⟩)) :
    Fc Try.prog 96 [.slice (some ⟨k, 0, none⟩) n cp] h (.slice (some ⟨h.next, 0, none⟩) n openB) (h.new (.cells ⟨rows eU rs, 3, true⟩)) := by
  refine Fc.ofOwn (mk := id) (e := 48) (sz := 3) (xs := rows eU rs) (rows_no (f := eU) rs) (fun _ _ _ => rfl) (fun _ _ _ h => h) ⟨_, _, Try.func96, rfl⟩ fun w0 φ κ w R ha => ?_
  obtain ⟨A, cap, e1, hs⟩ := Rel.sl (enc := eU) (xs := rs) R (k := k) (n := n) (cp := cp) hg (by decide) (ha _ (by simp)) hn
  simp only [List.map_cons, List.map_nil, e1]
  refine (cloneU_any A n cap w.heap.size rs w hs (Nat.le_refl _) hb).mono ?_
  rintro en w' ⟨A', n', cap', rfl, ho, hbl⟩
  have hn' := ho.1
  obtain rfl : n' = n := by omega
  exact ⟨A', cap', rfl, ho.2, hbl⟩
end Go.Proofs.Ytfmcdbcoljpomaa
