/-
  Plain law of chapter 7: the account that is reckoned from lengths and marks is the one for which each mm is looked at.
-/
import Derived.Test.YtlkfcbdbieenhaaCropWI
namespace Go.Proofs.Ytlkfcbdbieenhaa
open Go.RowKit

theorem kF_congr {a b : Nat → Bool} {n : Nat} (h : ∀ p, p < n → a p = b p) : kF a n = kF b n := by
  induction n with
  | zero => rfl
  | succ n ih => unfold kF; rw [ih (fun p hp => h p (by omega)), h n (by omega)]
theorem kF_or {a b : Nat → Bool} {n : Nat} (h : ∀ p, p < n → (a p && b p) = false) : kF (fun p => a p || b p) n = kF a n + kF b n := by
  induction n with
  | zero => simp [kF]
  | succ n ih =>
    have h1 := ih (fun p hp => h p (by omega))
    have h2 := h n (by omega)
    unfold kF
    rw [h1]
    cases ha : a n <;> cases hb : b n <;> simp_all <;> omega
theorem kF_three (a b : Nat → Bool) (n : Nat) : kF a n + kF (fun p => !a p && b p) n + kF (fun p => !a p && !b p) n = n := by
  induction n with
  | zero => simp [kF]
  | succ n ih =>
    unfold kF
    cases ha : a n <;> cases hb : b n <;> simp <;> omega
theorem kF_span {f t : Int} (hf : 0 ≤ f) (hft : f ≤ t) (n : Nat) : kF (fun p => decide (f ≤ (p : Int)) && decide ((p : Int) < t)) n = min t n - min f n := by
  induction n with
  | zero => simp [kF]; omega
  | succ n ih =>
    unfold kF
    rw [ih]
    by_cases h1 : f ≤ (n : Int) ∧ (n : Int) < t
    · rw [if_pos (by simp; omega)]; omega
    · rw [if_neg (by simp; omega)]; omega
theorem rk_step {l : List St} {s1 s2 s3 : Int} {bs : List Bl} (h : rkF l s1 s2 s3 bs = true) {k : Nat} {x y : Bl} (hx : bs[k]? = some x) (hy : bs[k + 1]? = some y) : x.2 + s3 ≤ y.1 := by
  unfold rkF at h
  rw [List.all_eq_true] at h
  have := h (k + 1) (by simpa using (List.getElem?_eq_some_iff.1 hy).1)
  unfold rkAt at this
  rw [getD_of hy, show k + 1 - 1 = k from rfl, getD_of hx, Bool.and_eq_true] at this
  simpa using this.2
theorem rk_lt {l : List St} {s1 s2 s3 : Int} {bs : List Bl} (h : rkF l s1 s2 s3 bs = true) (hs3 : 0 ≤ s3) : ∀ (d i : Nat) (x y : Bl), bs[i]? = some x → bs[i + d + 1]? = some y → x.2 + s3 ≤ y.1
  | 0, _, _, _, hx, hy => rk_step h hx hy
  | d + 1, i, x, y, hx, hy => by
    obtain ⟨z, hz⟩ : ∃ z, bs[i + d + 1]? = some z := getElem?_of_lt (by have := (List.getElem?_eq_some_iff.1 hy).1; omega)
    have h1 := rk_lt h hs3 d i x z hx hz
    have h2 := rk_step h hz hy
    have h3 := al_out (rkF_at h hz)
    omega
theorem rk_lt' {l : List St} {s1 s2 s3 : Int} {bs : List Bl} (h : rkF l s1 s2 s3 bs = true) (hs3 : 0 ≤ s3) {i j : Nat} (hij : i < j) {x y : Bl} (hx : bs[i]? = some x) (hy : bs[j]? = some y) : x.2 + s3 ≤ y.1 :=
  rk_lt h hs3 (j - i - 1) i x y hx (by rw [show i + (j - i - 1) + 1 = j from by omega]; exact hy)
theorem inF_mem {bs : List Bl} {p : Nat} (h : inF bs p = true) : ∃ (i : Nat) (x : Bl), bs[i]? = some x ∧ x.1 ≤ (p : Int) ∧ (p : Int) < x.2 := by
  unfold inF at h
  rw [List.any_eq_true] at h
  obtain ⟨x, hx, hp⟩ := h
  obtain ⟨i, hi⟩ := List.mem_iff_getElem?.1 hx
  simp at hp
  exact ⟨i, x, hi, hp⟩
theorem cuF_mem {s3 : Int} {bs : List Bl} {p : Nat} (h : cuF s3 bs p = true) : ∃ (i : Nat) (x : Bl), bs[i]? = some x ∧ ((x.2 ≤ (p : Int) ∧ (p : Int) < x.2 + s3) ∨ ((p : Int) < x.1 ∧ x.1 - s3 ≤ (p : Int))) := by
  unfold cuF at h
  rw [List.any_eq_true] at h
  obtain ⟨x, hx, hp⟩ := h
  obtain ⟨i, hi⟩ := List.mem_iff_getElem?.1 hx
  simp at hp
  exact ⟨i, x, hi, hp⟩
theorem in_cu {l : List St} {s1 s2 s3 : Int} {bs : List Bl} (h : rkF l s1 s2 s3 bs = true) (hs3 : 0 ≤ s3) (p : Nat) (hi : inF bs p = true) : cuF s3 bs p = false := by
  cases hc : cuF s3 bs p with
  | false => rfl
  | true =>
    obtain ⟨i, x, hx, h1, h2⟩ := inF_mem hi
    obtain ⟨j, y, hy, h3⟩ := cuF_mem hc
    have ax := al_out (rkF_at h hx)
    have ay := al_out (rkF_at h hy)
    rcases Nat.lt_trichotomy i j with hij | rfl | hij
    · have := rk_lt' h hs3 hij hx hy
      omega
    · rw [hx] at hy
      injection hy with hy
      subst hy
      omega
    · have := rk_lt' h hs3 hij hy hx
      omega
theorem gone_cu (s3 : Int) (n : Nat) (bs : List Bl) (p : Nat) (hp : p < n) : goneF s3 n bs p = cuF s3 bs p := by
  unfold goneF cuF
  congr 1
  funext x
  unfold cA cB
  rw [Bool.eq_iff_iff]
  simp
  omega
theorem in_len {l : List St} {s1 s2 s3 : Int} {bs : List Bl} (h : rkF l s1 s2 s3 bs = true) (hs3 : 0 ≤ s3) (n : Nat) (hn : (n : Int) = lenF l) : kF (inF bs) n = lnB bs := by
  have key : ∀ k, kF (inF (bs.take k)) n = lnB (bs.take k) := fun k => by
    induction k with
    | zero =>
      rw [List.take_zero]
      have : kF (inF []) n = 0 := by
        have : inF [] = fun _ => false := by funext p; rfl
        rw [this]
        clear hn
        induction n with
        | zero => rfl
        | succ n ih => unfold kF; simp [ih]
      rw [this]
      rfl
    | succ k ih =>
      cases hx : bs[k]? with
      | none =>
        have : bs.take (k + 1) = bs.take k := by
          rw [List.take_add_one, hx]
          simp
        rw [this]
        exact ih
      | some x =>
        have ax := al_out (rkF_at h hx)
        rw [take_snoc hx, lnB_snoc, ← ih]
        have e : inF (bs.take k ++ [x]) = fun p => inF (bs.take k) p || (decide (x.1 ≤ (p : Int)) && decide ((p : Int) < x.2)) := by
          funext p
          exact inF_snoc _ _ _
        rw [e, kF_or, kF_span (by omega) (by omega), Int.min_eq_left (by omega), Int.min_eq_left (by omega)]
        intro p _
        cases hi : inF (bs.take k) p with
        | false => rfl
        | true =>
          obtain ⟨i, y, hy, h1, h2⟩ := inF_mem hi
          have hik : i < k := by
            have := (List.getElem?_eq_some_iff.1 hy).1
            simp at this
            omega
          rw [List.getElem?_take, if_pos hik] at hy
          have := rk_lt' h hs3 hik hy hx
          simp
          omega
  have := key bs.length
  rwa [List.take_length] at this
/-- Both accounts are one. -/
theorem ac_ra {l : List St} {s1 s2 s3 : Int} {bs : List Bl} (hg : l.any badSt = false) (h : rkF l s1 s2 s3 bs = true) (hs3 : 0 ≤ s3) : acF s3 (wF l).length bs = raF s3 (wF l).length bs := by
  have hl := wF_len l hg
  have h1 := in_len h hs3 (wF l).length hl
  have h3 := kF_three (inF bs) (cuF s3 bs) (wF l).length
  have h2 : kF (goneF s3 (wF l).length bs) (wF l).length = kF (fun p => !inF bs p && cuF s3 bs p) (wF l).length := kF_congr fun p hp => by
    rw [gone_cu s3 _ bs p hp]
    cases hi : inF bs p with
    | false => simp
    | true => rw [in_cu h hs3 p hi]; rfl
  unfold acF raF
  rw [h1] at h3
  rw [← h2] at h3 ⊢
  rw [h1]
  congr 2
  omega
end Go.Proofs.Ytlkfcbdbieenhaa
