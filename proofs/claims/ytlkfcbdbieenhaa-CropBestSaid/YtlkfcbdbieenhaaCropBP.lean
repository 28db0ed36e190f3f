/-
  Plain law of chapter 7 for CropBetter: what the law asks of the best totals, said of lists of stretches.
-/
import Derived.Test.YtlkfcbdbieenhaaCropBO
namespace Go.Proofs.Ytlkfcbdbieenhaa
open Go.RowKit

theorem bestT_eq {l : List St} {s1 s2 s3 : Int} (h : checkF l (s1, s2, s3) = 0) : bestT l s1 s2 s3 = bT (wF l) s1 s2 s3 := if_pos h

/-- Stretches of the same lengths that are worth as much or more. -/
def upL : List St → List St → Prop
  | [], [] => True
  | x :: l, y :: l' => y.1 = x.1 ∧ x.2 ≤ y.2 ∧ y.2 ≤ 1000 ∧ upL l l'
  | _, _ => False
theorem upL_len : ∀ {l l' : List St}, upL l l' → l'.length = l.length ∧ lenF l' = lenF l
  | [], [], _ => ⟨rfl, rfl⟩
  | x :: l, y :: l', ⟨h1, _, _, h4⟩ => by
    have := upL_len h4
    simp only [List.length_cons, lenF]
    omega
  | [], _ :: _, h => h.elim
  | _ :: _, [], h => h.elim
theorem upL_ok : ∀ {l l' : List St}, upL l l' → l.any badSt = false → l'.any badSt = false
  | [], [], _, _ => rfl
  | x :: l, y :: l', ⟨h1, h2, h3, h4⟩, hb => by
    rw [List.any_cons, Bool.or_eq_false_iff] at hb ⊢
    have hx := badSt_f hb.1
    refine ⟨?_, upL_ok h4 hb.2⟩
    simp only [badSt, Bool.or_eq_false_iff, Bool.not_eq_false']
    exact ⟨inB_t (by omega), inB_t (by omega)⟩
  | [], _ :: _, h, _ => h.elim
  | _ :: _, [], h, _ => h.elim
theorem wF_cons (x : St) (l : List St) : wF (x :: l) = List.replicate x.1.toNat x.2 ++ wF l := by simp [wF]
theorem upL_wF : ∀ {l l' : List St}, upL l l' → (wF l').length = (wF l).length ∧ ∀ (i : Nat) (a b : Int), (wF l)[i]? = some a → (wF l')[i]? = some b → a ≤ b
  | [], [], _ => ⟨rfl, fun i a b h => by simp [wF] at h⟩
  | x :: l, y :: l', ⟨h1, h2, _, h4⟩ => by
    have ih := upL_wF h4
    rw [wF_cons, wF_cons, h1]
    refine ⟨by simp [ih.1], fun i a b ha hb => ?_⟩
    by_cases hi : i < x.1.toNat
    · rw [List.getElem?_append_left (by simpa using hi), List.getElem?_replicate, if_pos hi] at ha hb
      injection ha with ha
      injection hb with hb
      omega
    · rw [List.getElem?_append_right (by simpa using hi), List.length_replicate] at ha hb
      exact ih.2 _ a b ha hb
  | [], _ :: _, h => h.elim
  | _ :: _, [], h => h.elim
theorem checkF_make {l : List St} {s1 s2 s3 : Int} (h1 : l.length ≤ 60) (h2 : l.any badSt = false) (h3 : lenF l ≤ 3000) (h4 : 1 ≤ s1) (h5 : s1 ≤ s2) (h6 : s2 ≤ 600) (h7 : 0 ≤ s3) (h8 : s3 ≤ 20) : checkF l (s1, s2, s3) = 0 :=
  checkF_zero (by omega) h2 (by omega) (by omega) (by omega) (by omega) (inB_t ⟨h7, h8⟩)
/-- More worth, wider limits. -/
theorem better_more {l l' : List St} {s1 s2 s3 s1' s2' s3' : Int} (h : checkF l (s1, s2, s3) = 0) (hu : upL l l') (h1 : 1 ≤ s1') (h2 : s1' ≤ s1) (h3 : s2 ≤ s2') (h4 : s2' ≤ 600) (h5 : 0 ≤ s3') (h6 : s3' ≤ s3) :
    checkF l' (s1', s2', s3') = 0 ∧ bestT l s1 s2 s3 ≤ bestT l' s1' s2' s3' := by
  have hok := checkF_ok h
  have hl := upL_len hu
  have hb := upL_ok hu hok.2.1
  have hc : checkF l' (s1', s2', s3') = 0 := checkF_make (by omega) hb (by omega) h1 (by omega) h4 h5 (by omega)
  rw [bestT_eq h, bestT_eq hc]
  have hw := upL_wF hu
  exact ⟨hc, bT_mono (wF_in hok.2.1) (wF_in hb) h1 h5 hw.1 hw.2 h2 h3 h6⟩
theorem lenF_reverse (l : List St) : lenF l.reverse = lenF l := by
  induction l with
  | nil => rfl
  | cons x l ih => rw [List.reverse_cons, lenF_append, ih]; simp [lenF]; omega
/-- Turned round. -/
theorem better_back {l : List St} {s1 s2 s3 : Int} (h : checkF l (s1, s2, s3) = 0) : checkF l.reverse (s1, s2, s3) = 0 ∧ bestT l.reverse s1 s2 s3 = bestT l s1 s2 s3 := by
  have hok := checkF_ok h
  have hc : checkF l.reverse (s1, s2, s3) = 0 := checkF_make (by rw [List.length_reverse]; omega) (by rw [List.any_reverse]; exact hok.2.1) (by rw [lenF_reverse]; omega) (by omega) (by omega) (by omega) (by omega) (by omega)
  rw [bestT_eq h, bestT_eq hc, wF_reverse]
  exact ⟨hc, bT_rev (wF_in hok.2.1) (by omega) (by omega)⟩
/-- Two behind each other. -/
theorem better_twice {l : List St} {s1 s2 s3 : Int} (h : checkF l (s1, s2, s3) = 0) (h28 : l.length ≤ 28) (h300 : lenF l ≤ 300) :
    checkF (l ++ [(s3 + 1, -1)] ++ l) (s1, s2, s3) = 0 ∧ bestT (l ++ [(s3 + 1, -1)] ++ l) s1 s2 s3 = 2 * bestT l s1 s2 s3 := by
  have hok := checkF_ok h
  obtain ⟨k, hk⟩ : ∃ k : Nat, s3 = k := ⟨s3.toNat, by omega⟩
  subst hk
  have hb : badSt ((k : Int) + 1, -1) = false := by
    simp only [badSt, Bool.or_eq_false_iff, Bool.not_eq_false']
    exact ⟨inB_t (by omega), inB_t (by omega)⟩
  have hc : checkF (l ++ [((k : Int) + 1, -1)] ++ l) (s1, s2, (k : Int)) = 0 := checkF_make (by simp; omega) (by simp only [List.any_append, List.any_cons, List.any_nil, hok.2.1, hb]; rfl) (by rw [lenF_append, lenF_append]; simp [lenF]; omega) (by omega) (by omega) (by omega) (by omega) (by omega)
  rw [bestT_eq h, bestT_eq hc, wF_cat, bT_cat (wF_in hok.2.1) (wF_in hok.2.1) (by omega) rfl]
  exact ⟨hc, by omega⟩
theorem bestT_bd {l : List St} {s1 s2 s3 : Int} : 0 ≤ bestT l s1 s2 s3 ∧ bestT l s1 s2 s3 ≤ 3000000 := by
  unfold bestT
  split
  · rename_i h
    have hok := checkF_ok h
    have hwl := wF_len l hok.2.1
    have := tab_ok (s1 := s1) (s2 := s2) (wF_in hok.2.1) (show 0 ≤ s3 by omega) 0 (Nat.zero_le _)
    have h1 := this.1
    have h2 := this.2.1
    show 0 ≤ (tabW (wF l) s1 s2 s3 0).1 ∧ (tabW (wF l) s1 s2 s3 0).1 ≤ 3000000
    omega
  · omega
end Go.Proofs.Ytlkfcbdbieenhaa
