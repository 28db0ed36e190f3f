/-
  Plain law of chapter 7: what a proof is; the table is one, and no number of any proof is less than the table's.
-/
import Derived.Test.YtlkfcbdbieenhaaCropBP
import Derived.Test.YtlkfcbdbieenhaaCropB8
import Derived.Test.YtlkfcbdbieenhaaMd
namespace Go.Proofs.Ytlkfcbdbieenhaa
open Go.RowKit Go.Vm

/-- What a proof says at a place. -/
def pvAt (ws : List Int) (s1 s2 s3 : Int) (bd : List Int) (f : Nat) : Bool :=
  decide (nth bd (f + 1) ≤ nth bd f) && (yF ws s1 s2 f).all fun x => decide (x.2.2 + nth bd (min (x.2.1 + s3) ws.length).toNat ≤ nth bd f)
def pvF (ws : List Int) (s1 s2 s3 : Int) (bd : List Int) : Bool :=
  decide (bd.length = ws.length + 1) && (bd.all (fun n => inB n 0 1000000000000000) && (List.range ws.length).all (pvAt ws s1 s2 s3 bd))
/-- What Proves returns. -/
def provesF (l : List St) (s1 s2 s3 : Int) (bd : List Int) : Bool := decide (checkF l (s1, s2, s3) = 0) && pvF (wF l) s1 s2 s3 bd

theorem pvF_iff {ws : List Int} {s1 s2 s3 : Int} {bd : List Int} : pvF ws s1 s2 s3 bd = true ↔ bd.length = ws.length + 1 ∧ (∀ n ∈ bd, 0 ≤ n ∧ n ≤ 1000000000000000) ∧
    ∀ f, f < ws.length → nth bd (f + 1) ≤ nth bd f ∧ ∀ x ∈ yF ws s1 s2 f, x.2.2 + nth bd (min (x.2.1 + s3) ws.length).toNat ≤ nth bd f := by
  simp only [pvF, pvAt, Bool.and_eq_true, decide_eq_true_eq, List.all_eq_true, List.mem_range, inB_iff]

section
variable {ws : List Int} {s1 s2 s3 : Int}
/-- No number of a proof is less than the table's. -/
theorem pv_ge (hw : ∀ x ∈ ws, -1 ≤ x ∧ x ≤ 1000) (hs1 : 1 ≤ s1) (hs3 : 0 ≤ s3) {bd : List Int} (h : pvF ws s1 s2 s3 bd = true) : ∀ (d p : Nat), p + d = ws.length → (tabW ws s1 s2 s3 p).1 ≤ nth bd p := by
  obtain ⟨h1, h2, h3⟩ := pvF_iff.1 h
  intro d
  induction d using Nat.strongRecOn with
  | ind d ih =>
  intro p hp
  by_cases hl : p < ws.length
  · rw [tab_eq (s1 := s1) (s2 := s2) hw hs3 hl]
    obtain ⟨q1, q2⟩ := h3 p hl
    rcases fold_mem (s3 := s3) (tabW ws s1 s2 s3) ws.length (yF ws s1 s2 p) (tabW ws s1 s2 s3 (p + 1), false) with e | ⟨x, hx, e⟩
    · show ((yF ws s1 s2 p).foldl (stepR (tabW ws s1 s2 s3) s3 ws.length) (tabW ws s1 s2 s3 (p + 1), false)).1.1 ≤ _
      rw [e]
      have := ih (d - 1) (by omega) (p + 1) (by omega)
      simp only
      omega
    · show ((yF ws s1 s2 p).foldl (stepR (tabW ws s1 s2 s3) s3 ws.length) (tabW ws s1 s2 s3 (p + 1), false)).1.1 ≤ _
      rw [e]
      have hy := yF_ok hw s1 s2 p (by omega) x hx
      have := q2 x hx
      have hm := ih (ws.length - (min (x.2.1 + s3) ws.length).toNat) (by have := hy.2.1; have := hy.1; omega) (min (x.2.1 + s3) ws.length).toNat (by have := hy.2.1; have := hy.1; omega)
      simp only [candF]
      omega
  · obtain rfl : p = ws.length := by omega
    rw [tab_end]
    exact (h2 _ (nth_mem (by omega))).1

/-- The table is a proof. -/
theorem pv_tab (hw : ∀ x ∈ ws, -1 ≤ x ∧ x ≤ 1000) (hs3 : 0 ≤ s3) (hN : ws.length ≤ 3000) : pvF ws s1 s2 s3 ((List.range (ws.length + 1)).map fun i => (tabW ws s1 s2 s3 i).1) = true := by
  have hn : ∀ i, i ≤ ws.length → nth ((List.range (ws.length + 1)).map fun i => (tabW ws s1 s2 s3 i).1) i = (tabW ws s1 s2 s3 i).1 := fun i hi =>
    nth_of (by rw [List.getElem?_map, List.getElem?_range (by omega)]; rfl)
  rw [pvF_iff]
  refine ⟨by simp, fun n hm => ?_, fun f hf => ?_⟩
  · obtain ⟨i, hi, rfl⟩ := List.mem_map.1 hm
    have hi2 := List.mem_range.1 hi
    have := tab_ok (s1 := s1) (s2 := s2) hw hs3 i (by omega)
    have h1 := this.1
    have h2 := this.2.1
    omega
  · have hfold := fold_ge (s3 := s3) (tabW ws s1 s2 s3) ws.length (yF ws s1 s2 f) (tabW ws s1 s2 s3 (f + 1), false)
    have he : (tabW ws s1 s2 s3 f).1 = ((yF ws s1 s2 f).foldl (stepR (tabW ws s1 s2 s3) s3 ws.length) (tabW ws s1 s2 s3 (f + 1), false)).1.1 := congrArg (·.1) (tab_eq (s1 := s1) (s2 := s2) hw hs3 hf)
    rw [hn f (by omega), hn (f + 1) (by omega), he]
    refine ⟨hfold.1, fun x hx => ?_⟩
    have hy := yF_ok hw s1 s2 f (by omega) x hx
    rw [hn _ (by omega)]
    exact hfold.2 x hx
end

section
variable {l : List St} {s1 s2 s3 : Int}
theorem bndL_eq (h : checkF l (s1, s2, s3) = 0) : bndL l s1 s2 s3 = (List.range ((wF l).length + 1)).map fun i => (tabW (wF l) s1 s2 s3 i).1 := if_pos h
theorem bndL_len (h : checkF l (s1, s2, s3) = 0) : ((bndL l s1 s2 s3).length : Int) = lenF l + 1 := by
  rw [bndL_eq h, List.length_map, List.length_range]
  have := wF_len l (checkF_ok h).2.1
  omega
theorem bndL_at (h : checkF l (s1, s2, s3) = 0) {i : Nat} (hi : i ≤ (wF l).length) : nth (bndL l s1 s2 s3) i = (tabW (wF l) s1 s2 s3 i).1 := by
  rw [bndL_eq h]
  exact nth_of (by rw [List.getElem?_map, List.getElem?_range (by omega)]; rfl)
theorem bndL_proves (h : checkF l (s1, s2, s3) = 0) : provesF l s1 s2 s3 (bndL l s1 s2 s3) = true := by
  have hok := checkF_ok h
  have hl := wF_len l hok.2.1
  unfold provesF
  rw [bndL_eq h, pv_tab (wF_in hok.2.1) hok.2.2.2.2.2.2.1 (by omega)]
  simpa using h
/-- No number of a proof is less than that of the bounds. -/
theorem proves_ge {bd : List Int} (hp : provesF l s1 s2 s3 bd = true) : checkF l (s1, s2, s3) = 0 ∧ bd.length = (bndL l s1 s2 s3).length ∧ ∀ i, i < bd.length → nth (bndL l s1 s2 s3) i ≤ nth bd i := by
  unfold provesF at hp
  rw [Bool.and_eq_true, decide_eq_true_eq] at hp
  obtain ⟨h, hp⟩ := hp
  have hok := checkF_ok h
  have h1 := (pvF_iff.1 hp).1
  refine ⟨h, by rw [h1, bndL_eq h]; simp, fun i hi => ?_⟩
  rw [bndL_at h (by omega)]
  exact pv_ge (wF_in hok.2.1) hok.2.2.2.1 hok.2.2.2.2.2.2.1 hp ((wF l).length - i) i (by omega)
theorem bestT_bnd (h : checkF l (s1, s2, s3) = 0) : nth (bndL l s1 s2 s3) 0 = bestT l s1 s2 s3 := by
  rw [bndL_at h (Nat.zero_le _), bestT_eq h]
  rfl
end

/- croppings as the code says it -/
section
variable {ws : List Int} {s1 s2 s3 : Int}
theorem val_okB (hs1 : 1 ≤ s1) {x : Bl} : (valF s1 s2 ws x.1 x.2).2 = true ↔ okB ws s1 s2 x := by
  unfold okB lsF
  by_cases h : 0 ≤ x.1 ∧ x.2 ≤ ws.length ∧ x.1 ≤ x.2 ∧ s1 ≤ x.2 - x.1 ∧ x.2 - x.1 ≤ s2
  · rw [valF_yes h]
    simp only [decide_eq_true_eq]
    exact ⟨fun h2 => ⟨h.1, by omega, h.2.1, h.2.2.2.1, h.2.2.2.2, h2⟩, fun h2 => h2.2.2.2.2.2⟩
  · rw [valF_no h]
    exact ⟨fun h2 => by simp at h2, fun h2 => absurd ⟨h2.1, h2.2.2.1, by omega, h2.2.2.2.1, h2.2.2.2.2.1⟩ h⟩
theorem val_vlB (hs1 : 1 ≤ s1) {x : Bl} (h : okB ws s1 s2 x) : (valF s1 s2 ws x.1 x.2).1 = vlB ws x := by
  rw [valF_yes ⟨h.1, h.2.2.1, by have := h.2.1; omega, h.2.2.2.1, h.2.2.2.2.1⟩]
  unfold vlB lsF
  rw [Int.mul_comm]
theorem crB_crp (hs1 : 1 ≤ s1) {bs : List Bl} (h : crB s1 s2 s3 ws bs = true) : ∀ (d j : Nat), j + d = bs.length → crpF ws s1 s2 s3 (if j = 0 then 0 else (bs.getD (j - 1) (0, 0)).2 + s3) (bs.drop j)
  | 0, j, hj => by rw [List.drop_of_length_le (by omega)]; trivial
  | d + 1, j, hj => by
    have hjl : j < bs.length := by omega
    have hk := List.all_eq_true.1 h j (List.mem_range.2 hjl)
    have ih := crB_crp hs1 h d (j + 1) (by omega)
    rw [if_neg (by omega), Nat.add_sub_cancel] at ih
    have e : bs.getD j (0, 0) = bs[j] := by rw [List.getD_eq_getElem?_getD, List.getElem?_eq_getElem hjl]; rfl
    unfold okAt at hk
    rw [e, Bool.and_eq_true] at hk
    rw [e] at ih
    have hok := (val_okB (s2 := s2) hs1).1 hk.1
    rw [List.drop_eq_getElem_cons hjl]
    refine ⟨?_, hok, ih⟩
    split
    · exact hok.1
    · rename_i h0
      have := hk.2
      simpa [h0] using this
theorem crp_crB (hs1 : 1 ≤ s1) : ∀ {bs : List Bl} {p : Int}, crpF ws s1 s2 s3 p bs → ∀ k, k < bs.length → (valF s1 s2 ws (bs.getD k (0, 0)).1 (bs.getD k (0, 0)).2).2 = true ∧ (k = 0 → p ≤ (bs.getD 0 (0, 0)).1) ∧ (k ≠ 0 → (bs.getD (k - 1) (0, 0)).2 + s3 ≤ (bs.getD k (0, 0)).1)
  | [], _, _, k, hk => by simp at hk
  | x :: bs, p, ⟨h1, h2, h3⟩, 0, _ => ⟨(val_okB hs1).2 h2, fun _ => h1, fun h => absurd rfl h⟩
  | x :: bs, p, ⟨h1, h2, h3⟩, k + 1, hk => by
    obtain ⟨q1, q2, q3⟩ := crp_crB hs1 h3 k (by simpa using hk)
    refine ⟨by simpa using q1, fun h => by omega, fun _ => ?_⟩
    cases k with
    | zero => simpa using q2 rfl
    | succ k => simpa using q3 (by omega)
theorem crB_iff (hs1 : 1 ≤ s1) {bs : List Bl} : crB s1 s2 s3 ws bs = true ↔ crpF ws s1 s2 s3 0 bs := by
  constructor
  · intro h
    have := crB_crp hs1 h bs.length 0 (by omega)
    simpa using this
  · intro h
    refine List.all_eq_true.2 fun k hk => ?_
    obtain ⟨q1, _, q3⟩ := crp_crB hs1 h k (List.mem_range.1 hk)
    unfold okAt
    rw [q1, Bool.true_and, Bool.or_eq_true, decide_eq_true_eq, decide_eq_true_eq]
    by_cases h0 : k = 0
    · exact .inl h0
    · exact .inr (q3 h0)
theorem sumV_smB (hs1 : 1 ≤ s1) : ∀ {bs : List Bl} {p : Int}, crpF ws s1 s2 s3 p bs → sumV s1 s2 ws bs = smB ws bs
  | [], _, _ => rfl
  | x :: bs, p, ⟨h1, h2, h3⟩ => by
    have := sumV_smB hs1 h3
    rw [smB_cons, ← this, ← val_vlB hs1 h2]
    simp [sumV]
end
section
variable {l : List St} {s1 s2 s3 : Int}
/-- The best cropping has the total that is told. -/
theorem total_best (h : checkF l (s1, s2, s3) = 0) : totalF l s1 s2 s3 (bestL l s1 s2 s3) = (bestT l s1 s2 s3, 0) := by
  have hok := checkF_ok h
  have hb := bw_crop (s2 := s2) (wF_in hok.2.1) hok.2.2.2.1 hok.2.2.2.2.2.2.1 ((wF l).length + 1) 0 (Nat.zero_le _) (by omega)
  have e1 : bestL l s1 s2 s3 = bwF (tabW (wF l) s1 s2 s3) s3 (wF l).length ((wF l).length + 1) 0 := if_pos h
  have hc := (crB_iff (ws := wF l) hok.2.2.2.1).2 hb.1
  unfold totalF
  rw [if_neg (by simpa using h), e1]
  unfold totF
  rw [hc]
  simp only [if_true]
  rw [sumV_smB hok.2.2.2.1 hb.1, hb.2, bestT_eq h]
  rfl
/-- No cropping is worth more. -/
theorem total_le {bs : List Bl} {n : Int} (h : checkF l (s1, s2, s3) = 0) (hb : totalF l s1 s2 s3 bs = (n, 0)) : n ≤ bestT l s1 s2 s3 := by
  have hok := checkF_ok h
  unfold totalF at hb
  rw [if_neg (by simpa using h)] at hb
  unfold totF at hb
  cases hc : crB s1 s2 s3 (wF l) bs with
  | false => rw [hc] at hb; simp at hb
  | true =>
    rw [hc] at hb
    simp only [if_true, Prod.mk.injEq, and_true] at hb
    have hcr := (crB_iff hok.2.2.2.1).1 hc
    rw [sumV_smB hok.2.2.2.1 hcr] at hb
    rw [← hb, bestT_eq h]
    exact bT_ge (wF_in hok.2.1) hok.2.2.2.1 hok.2.2.2.2.2.2.1 hcr
end
end Go.Proofs.Ytlkfcbdbieenhaa
