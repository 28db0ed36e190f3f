/-
  Chapters 8 to 10 at the top: wider cuts, thinner slices. No program in sight.
-/
import Derived.Test.YtjfgbdmdnejhdaaFitH
set_option linter.unusedSimpArgs false
set_option linter.unusedVariables false
namespace Go.Proofs.Ytjfgbdmdnejhdaa
open Go.RowKit Go.Vm
section
variable {c : Wb} {len d0 d1 : Int} {W S W' S' : List Int} {n : Nat}
theorem dF_mono (h0 : d0 ≤ d1) : ∀ j, (∀ i, i < j → nth W' i ≤ nth W i) → dF d0 W j ≤ dF d1 W' j
  | 0, _ => h0
  | j + 1, h => by
    have ih := dF_mono h0 j fun i hi => h i (by omega)
    have hj := h j (by omega)
    show max 0 (dF d0 W j - nth W j) ≤ max 0 (dF d1 W' j - nth W' j)
    omega
theorem kf_mono (h0 : d0 ≤ d1) {j : Nat} (hw : ∀ i, i < j → nth W' i ≤ nth W i) (hs : nth S j ≤ nth S' j) : kfF c len d0 W S j ≤ kfF c len d1 W' S' j := by
  have := dF_mono h0 j hw
  unfold kfF
  omega
theorem SF_eq (c : Wb) (len d0 : Int) (W S : List Int) : ∀ j, SF c len d0 W S j = (List.range (min j (usF c len - 1))).map fun i => c.p - kfF c len d0 W S i
  | 0 => by rw [Nat.zero_min]; rfl
  | j + 1 => by
    unfold SF
    rw [SF_eq c len d0 W S j]
    by_cases h : j + 1 < usF c len
    · rw [if_pos h, show min (j + 1) (usF c len - 1) = j + 1 by omega, show min j (usF c len - 1) = j by omega, List.range_succ, List.map_append]
      rfl
    · rw [if_neg h, List.append_nil, show min (j + 1) (usF c len - 1) = min j (usF c len - 1) by omega]
theorem SFn_len (c : Wb) (len d0 : Int) (W S : List Int) (h : usF c len = n) : (SF c len d0 W S n).length = n - 1 := by
  rw [SF_eq, List.length_map, List.length_range]
  omega
theorem SF_nth (c : Wb) (len d0 : Int) (W S : List Int) (h : usF c len = n) {i : Nat} (hi : i < n - 1) : nth (SF c len d0 W S n) i = c.p - kfF c len d0 W S i := by
  unfold nth
  rw [SF_eq, List.getD_eq_getElem?_getD, List.getElem?_map, List.getElem?_range (by omega)]
  rfl
theorem SF_mono (h : usF c len = n) (h0 : d0 ≤ d1) (hw : ∀ i, i < n → nth W' i ≤ nth W i) (hs : ∀ i, i < n → nth S i ≤ nth S' i) {i : Nat} (hi : i < n - 1) : nth (SF c len d1 W' S' n) i ≤ nth (SF c len d0 W S n) i := by
  rw [SF_nth c len d1 W' S' h hi, SF_nth c len d0 W S h hi]
  have := kf_mono (c := c) (len := len) (S := S) (S' := S') h0 (j := i) (fun k hk => hw k (by omega)) (hs i (by omega))
  omega
theorem rep_nth {a : Int} {i : Nat} (h : i < n) : nth (List.replicate n a) i = a := by
  unfold nth
  rw [List.getD_eq_getElem?_getD, List.getElem?_replicate_of_lt h]
  rfl
/-- The course with the widest cuts, and that with the narrowest. -/
theorem thick_ok (V : Vd c len) : Co c len c.dh (List.replicate (usF c len) c.wl) (List.replicate (usF c len) c.sh) := by
  have := V.d2
  have := V.w2
  have := V.l2
  refine ⟨V.d2, Int.le_refl _, List.length_replicate, List.length_replicate, fun x hx => ?_, fun x hx => ?_⟩
  · rw [(List.mem_replicate.1 hx).2]; omega
  · rw [(List.mem_replicate.1 hx).2]; omega
theorem thin_ok (V : Vd c len) : Co c len c.dl (List.replicate (usF c len) c.wh) (List.replicate (usF c len) c.sl) := by
  have := V.d2
  have := V.w2
  have := V.l2
  refine ⟨Int.le_refl _, V.d2, List.length_replicate, List.length_replicate, fun x hx => ?_, fun x hx => ?_⟩
  · rw [(List.mem_replicate.1 hx).2]; omega
  · rw [(List.mem_replicate.1 hx).2]; omega
/-- What is cut in a true course lies between. -/
theorem between (V : Vd c len) (C : Co c len d0 W S) {i : Nat} (hi : i < usF c len - 1) :
    nth (SF c len c.dh (List.replicate (usF c len) c.wl) (List.replicate (usF c len) c.sh) (usF c len)) i ≤ nth (SF c len d0 W S (usF c len)) i ∧
    nth (SF c len d0 W S (usF c len)) i ≤ nth (SF c len c.dl (List.replicate (usF c len) c.wh) (List.replicate (usF c len) c.sl) (usF c len)) i := by
  have hw : ∀ j, j < usF c len → c.wl ≤ nth W j ∧ nth W j ≤ c.wh := fun j hj => C.w _ (nth_mem (by rw [C.wl]; exact hj))
  have hs : ∀ j, j < usF c len → c.sl ≤ nth S j ∧ nth S j ≤ c.sh := fun j hj => C.s _ (nth_mem (by rw [C.sl]; exact hj))
  refine ⟨SF_mono rfl C.d2 (fun j hj => ?_) (fun j hj => ?_) hi, SF_mono rfl C.d1 (fun j hj => ?_) (fun j hj => ?_) hi⟩
  · rw [rep_nth hj]; exact (hw j hj).1
  · rw [rep_nth hj]; exact (hs j hj).2
  · rw [rep_nth hj]; exact (hw j hj).2
  · rw [rep_nth hj]; exact (hs j hj).1
end
end Go.Proofs.Ytjfgbdmdnejhdaa
