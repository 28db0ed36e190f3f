/-
  Chapter 7, suits, by names: with a conflict.
-/
import Derived.Test.YtlkfcbdbieenhaaCropS4
set_option linter.unusedSimpArgs false
set_option linter.unusedVariables false
namespace Go.Vm
open Go Go.RowKit
section
variable {P : Program} {w : Bool} {t el : TypeId} {f : TypeInfo} {s e k n i sz : Nat} {l : Fr} {h : AH} {K : Value → AH → Prop}
/-- The first elements of a row with open room. -/
theorem gen_to (hu : P.underlying t = some (.slice el)) (hi : P.info? el = some f) (hl : lk l s = some (.slice (some ⟨k, 0, none⟩) n openB)) (he : lk l e = some (.int .i64 i)) (hn : i ≤ n) (q : K (.slice (some ⟨k, 0, none⟩) i openB) h) :
    iStep P w (.gen (.slice t (.tmp s) none (some (.tmp e)) none)) l h K := by
  refine ⟨_, _, ?_, q⟩
  have ho : ¬ openB < openB := Nat.lt_irrefl _
  have h1 : aSlice P t (.slice (some ⟨k, 0, none⟩) n openB) none (some (.int .i64 i)) none = some (.slice (some ⟨k, 0, none⟩) i openB) := by
    simp [aSlice, hu, hi, natOf, ho, Addr.add, hn]
  have e1 : aEnv (trOf l) (.tmp s) = some (.slice (some ⟨k, 0, none⟩) n openB) := by simp only [aEnv, trOf_get, hl]
  have e2 : aOptV (aEnv (trOf l)) (some (.tmp e)) = some (some (.int .i64 i)) := by simp only [aOptV, aEnv, trOf_get, he]
  have e3 : aOptV (aEnv (trOf l)) none = some none := rfl
  simp only [aOp, e1, e2, e3, h1]
/-- The elements from one on. -/
theorem gen_from {j : Int} (hu : P.underlying t = some (.slice el)) (hi : P.info? el = some f) (hsz : f.size = sz) (hl : lk l s = some (.slice (some ⟨k, 0, none⟩) n openB)) (he : lk l e = some (.int .i64 j)) (hj : j = i) (hn : i < n) (q : K (.slice (some ⟨k, i * sz, none⟩) (n - i) (openB + i)) h) :
    iStep P w (.gen (.slice t (.tmp s) (some (.tmp e)) none none)) l h K := by
  subst hj
  refine ⟨_, _, ?_, q⟩
  have ho : ¬ openB < openB := Nat.lt_irrefl _
  have h1 : aSlice P t (.slice (some ⟨k, 0, none⟩) n openB) (some (.int .i64 i)) none none = some (.slice (some ⟨k, i * sz, none⟩) (n - i) (openB + i)) := by
    simp [aSlice, hu, hi, natOf, ho, hsz, Addr.add]
    omega
  have e1 : aEnv (trOf l) (.tmp s) = some (.slice (some ⟨k, 0, none⟩) n openB) := by simp only [aEnv, trOf_get, hl]
  have e2 : aOptV (aEnv (trOf l)) (some (.tmp e)) = some (some (.int .i64 i)) := by simp only [aOptV, aEnv, trOf_get, he]
  have e3 : aOptV (aEnv (trOf l)) none = some none := rfl
  simp only [aOp, e1, e2, e3, h1]
/-- None of them. -/
theorem gen_fromE {j : Int} (hu : P.underlying t = some (.slice el)) (hi : P.info? el = some f) (hl : lk l s = some (.slice (some ⟨k, 0, none⟩) n openB)) (he : lk l e = some (.int .i64 j)) (hj : j = n) (hn : n ≠ 0) (q : K (.slice (some ⟨h.next, 0, none⟩) 0 openB) h.bump) :
    iStep P w (.gen (.slice t (.tmp s) (some (.tmp e)) none none)) l h K := by
  subst hj
  refine ⟨_, _, ?_, q⟩
  have ho : ¬ openB < openB := Nat.lt_irrefl _
  have h1 : ∀ h : AH, aSlice P t (.slice (some ⟨k, 0, none⟩) n openB) (some (.int .i64 n)) none none = none := fun _ => by
    simp [aSlice, hu, hi, natOf, ho, hn]
  have h2 : aSliceEnd P h t (.slice (some ⟨k, 0, none⟩) n openB) (some (.int .i64 n)) none none = some (.slice (some ⟨h.next, 0, none⟩) 0 openB, h.bump) := by
    simp [aSliceEnd, hu, hi, natOf]
  have e1 : aEnv (trOf l) (.tmp s) = some (.slice (some ⟨k, 0, none⟩) n openB) := by simp only [aEnv, trOf_get, hl]
  have e2 : aOptV (aEnv (trOf l)) (some (.tmp e)) = some (some (.int .i64 n)) := by simp only [aOptV, aEnv, trOf_get, he]
  have e3 : aOptV (aEnv (trOf l)) none = some none := rfl
  simp only [aOp, e1, e2, e3, h1 h, h2]
end
end Go.Vm
namespace Go.Proofs.Ytlkfcbdbieenhaa
open Go.RowKit Go.Vm
set_option maxRecDepth 100000
theorem sq_all {l : List Tl} {tol x y : Int} (h0 : l ≠ []) : inSq (sqL l tol (upN 0 l.length)) x y ↔ ∀ t ∈ l, inSq (ofF t tol) x y := by
  have hn : 0 < l.length := List.length_pos_iff.2 h0
  rw [in_sqL (up_ne hn)]
  constructor
  · intro h t ht
    obtain ⟨i, hi, rfl⟩ := List.mem_iff_getElem.1 ht
    have := h i (upN_mem.2 (by omega))
    rwa [Int.toNat_natCast, ← (List.getElem?_eq_some_iff.1 (get_nth hi)).2] at this
  · intro h j hj
    have := upN_mem.1 hj
    exact h _ (nth_mem (by omega))
/-- The blocks with these numbers. -/
def pkL (l : List Tl) (js : List Int) : List Tl := js.map fun j => nth l j.toNat
theorem pk_ap {l : List Tl} {tol x y : Int} {js : List Int} (h : js ≠ []) : inSq (sqL (pkL l js) tol (upN 0 (pkL l js).length)) x y ↔ inSq (sqL l tol js) x y := by
  rw [sq_all (by unfold pkL; simpa using h), in_sqL h]
  unfold pkL
  simp
theorem pk_ok {l : List Tl} {js : List Int} (hl : ∀ i, i < l.length → tltB (nth l i) = true) (hj : ∀ j ∈ js, 0 ≤ j ∧ j < l.length) : ∀ i, i < (pkL l js).length → tltB (nth (pkL l js) i) = true := by
  intro i hi
  have hm := nth_mem hi
  obtain ⟨j, hj2, e⟩ := List.mem_map.1 hm
  rw [← e]
  have := hj j hj2
  exact hl _ (by omega)
theorem pk_turn {l : List Tl} {tol : Int} {js : List Int} (hck : ckT l tol = 0) (hj : ∀ j ∈ js, 0 ≤ j ∧ j < l.length) (h1 : 1 ≤ js.length) (h2 : js.length ≤ 10) : (apart l tol js = true → turnF (pkL l js) tol = (0, 0, 72) ∧ ∀ x y, sutB (pkL l js) tol x y = false) ∧ (apart l tol js = false → ∃ a b, turnF (pkL l js) tol = (a, b, 0)) := by
  obtain ⟨c1, c2, c3, c4, c5⟩ := ck_ok hck
  have hne : js ≠ [] := fun e => by rw [e] at h1; simp at h1
  have hpl : (pkL l js).length = js.length := by simp [pkL]
  have hpn : pkL l js ≠ [] := by unfold pkL; simpa using hne
  have hv := pk_ok (l := l) (js := js) c3 hj
  have hck2 : ckT (pkL l js) tol = 0 := ck_mk (by omega) (by omega) hv c4 c5
  constructor
  · intro ha
    unfold apart at ha
    rw [Bool.not_eq_true'] at ha
    have hno : ∀ x y, ¬ inSq (sqL (pkL l js) tol (upN 0 (pkL l js).length)) x y := fun x y h => (first_none ha).1 x y ((pk_ap hne).1 h)
    refine ⟨?_, fun x y => ?_⟩
    · unfold turnF
      rw [if_pos hck2, first_no hno]
      rfl
    · cases hs : sutB (pkL l js) tol x y with
      | false => rfl
      | true => exact absurd ((sut_iff hv hpn).1 hs).2 (hno x y)
  · intro ha
    unfold apart at ha
    rw [Bool.not_eq_false'] at ha
    have hs := (pk_ap hne).2 (first_some ha).1
    unfold turnF
    rw [if_pos hck2]
    generalize sqL (pkL l js) tol (upN 0 (pkL l js).length) = S at *
    cases hf : (firstF S).2.2 with
    | false => exact absurd hs ((first_none hf).1 _ _)
    | true => exact ⟨_, _, if_pos rfl⟩
theorem pk_less {l : List Tl} {tol : Int} {js : List Int} {i : Nat} (hck : ckT l tol = 0) (hc : conF (apart l tol) l.length l.length 1 = some js) (hi : i < js.length) (h1 : 1 < js.length) : ∃ a b, turnF ((pkL l js).take i ++ (pkL l js).drop (i + 1)) tol = (a, b, 0) := by
  obtain ⟨c1, c2, c3, c4, c5⟩ := ck_ok hck
  obtain ⟨g1, g2, g3, g4, g5, g6, g7⟩ := con_four hc
  have e : (pkL l js).take i ++ (pkL l js).drop (i + 1) = pkL l (js.eraseIdx i) := by
    unfold pkL
    rw [List.eraseIdx_eq_take_drop_succ, List.map_append, List.map_take, List.map_drop]
  rw [e]
  have hl : (js.eraseIdx i).length = js.length - 1 := List.length_eraseIdx_of_lt hi
  have hsub : ∀ j ∈ js.eraseIdx i, 0 ≤ j ∧ j < l.length := fun j hj => g5 j (List.mem_of_mem_eraseIdx hj)
  exact (pk_turn hck hsub (by omega) (by omega)).2 (g7 _ (fun e => by rw [e] at hl; simp at hl; omega) (by omega) (List.Pairwise.sublist (List.eraseIdx_sublist _ _) g4) hsub)
end Go.Proofs.Ytlkfcbdbieenhaa
