/-
  Plain law of chapter 7: the least worth of each mm of a block is that of the stretches of which it has a part.
-/
import Derived.Test.YtlkfcbdbieenhaaCropWC
namespace Go.Proofs.Ytlkfcbdbieenhaa
open Go.RowKit

theorem mnF_rep (p : List Int) (m : Nat) (x : Int) : mnF (p ++ List.replicate m x) = if 0 < m then min (mnF p) x else mnF p := by
  induction m with
  | zero => simp
  | succ m ih =>
    rw [List.replicate_succ', ← List.append_assoc, mnF_snoc, ih, if_pos (Nat.succ_pos m)]
    split <;> omega

theorem cut_rep (a : List Int) (c : Nat) (x : Int) (f n : Nat) : ∃ m, ((a ++ List.replicate c x).drop f).take n = (a.drop f).take n ++ List.replicate m x ∧ (0 < m ↔ f < a.length + c ∧ a.length < f + n ∧ 0 < n ∧ 0 < c) := by
  have hm : 0 < min (n - (a.length - f)) (c - (f - a.length)) ↔ f < a.length + c ∧ a.length < f + n ∧ 0 < n ∧ 0 < c := by
    constructor
    · intro h
      omega
    · intro h
      omega
  refine ⟨min (n - (a.length - f)) (c - (f - a.length)), ?_, hm⟩
  rw [List.drop_append, List.take_append, List.drop_replicate, List.take_replicate, List.length_drop]

theorem woF_mn (l : List St) (hg : l.any badSt = false) (f t : Int) (hf : 0 ≤ f) (hft : f < t) : mnF (((wF l).drop f.toNat).take (t - f).toNat) = (woF f t l).2 := by
  have key : ∀ k, mnF (((wF (l.take k)).drop f.toNat).take (t - f).toNat) = (woF f t (l.take k)).2 := fun k => by
    induction k with
    | zero => simp [wF, woF, mnF]
    | succ k ih =>
      cases hx : l[k]? with
      | none =>
        have : l.take (k + 1) = l.take k := by
          rw [List.take_add_one, hx]
          simp
        rw [this]
        exact ih
      | some x =>
        rw [take_snoc hx, wF_append, woF_snoc]
        have hb := badSt_f (any_at_f hg hx)
        have hl := wF_len (l.take k) (any_take_f hg k)
        have hat := woF_at f t (l.take k)
        obtain ⟨m, e, hm⟩ := cut_rep (wF (l.take k)) x.1.toNat x.2 f.toNat (t - f).toNat
        have ew : wF [x] = List.replicate x.1.toNat x.2 := by simp [wF]
        rw [ew, e, mnF_rep, ih]
        unfold woS
        simp only
        by_cases h0 : 0 < m
        · have := hm.1 h0
          rw [if_pos h0, if_pos (by omega)]
        · have hn : ¬ (f.toNat < (wF (l.take k)).length + x.1.toNat ∧ (wF (l.take k)).length < f.toNat + (t - f).toNat ∧ 0 < (t - f).toNat ∧ 0 < x.1.toNat) := fun hh => h0 (hm.2 hh)
          rw [if_neg h0, if_neg (by omega)]
  have := key l.length
  rwa [List.take_length] at this
end Go.Proofs.Ytlkfcbdbieenhaa
