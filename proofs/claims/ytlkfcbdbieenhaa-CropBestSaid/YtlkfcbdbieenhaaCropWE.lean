/-
  Plain law of chapter 7: a block, a cropping and its total by the program are those of the document; and a walk: the reference's Total.
-/
import Derived.Test.YtlkfcbdbieenhaaCropWD
namespace Go.Proofs.Ytlkfcbdbieenhaa
open Go.RowKit

theorem val_al {l : List St} {s1 s2 f t : Int} (hg : l.any badSt = false) (hs : 1 ≤ s1) : (valF s1 s2 (wF l) f t).2 = alF l s1 s2 f t := by
  have hl := wF_len l hg
  by_cases hc : 0 ≤ f ∧ t ≤ (wF l).length ∧ f ≤ t ∧ s1 ≤ t - f ∧ t - f ≤ s2
  · rw [valF_yes hc, woF_mn l hg f t (by omega) (by omega)]
    simp only [alF, inB]
    have h1 : decide (0 ≤ f) = true := decide_eq_true (by omega)
    have h2 : decide (t ≤ lenF l) = true := decide_eq_true (by omega)
    have h3 : decide (f < t) = true := decide_eq_true (by omega)
    have h4 : decide (s1 ≤ t - f) = true := decide_eq_true (by omega)
    have h5 : decide (t - f ≤ s2) = true := decide_eq_true (by omega)
    rw [h1, h2, h3, h4, h5]
    simp
  · rw [valF_no hc]
    cases hb : alF l s1 s2 f t with
    | false => rfl
    | true =>
      simp only [alF, inB, Bool.and_eq_true, decide_eq_true_eq] at hb
      exact absurd (by omega) hc
theorem al_out {l : List St} {s1 s2 f t : Int} (h : alF l s1 s2 f t = true) : 0 ≤ f ∧ t ≤ lenF l ∧ f < t ∧ s1 ≤ t - f ∧ t - f ≤ s2 := by
  simp only [alF, inB, Bool.and_eq_true, decide_eq_true_eq] at h
  omega
theorem val_wo {l : List St} {s1 s2 f t : Int} (hg : l.any badSt = false) (h : alF l s1 s2 f t = true) : (valF s1 s2 (wF l) f t).1 = (t - f) * (woF f t l).2 := by
  have hl := wF_len l hg
  have ha := al_out h
  rw [valF_yes (by omega), woF_mn l hg f t (by omega) (by omega)]
  exact Int.mul_comm _ _
/-- Whether the k-th block is allowed, and lies behind the one before it: as the document says it. -/
def rkAt (l : List St) (s1 s2 s3 : Int) (bs : List Bl) (k : Nat) : Bool :=
  alF l s1 s2 (bs.getD k (0, 0)).1 (bs.getD k (0, 0)).2 && (decide (k = 0) || decide ((bs.getD (k - 1) (0, 0)).2 + s3 ≤ (bs.getD k (0, 0)).1))
def rkF (l : List St) (s1 s2 s3 : Int) (bs : List Bl) : Bool := (List.range bs.length).all (rkAt l s1 s2 s3 bs)
theorem cr_rk {l : List St} {s1 s2 s3 : Int} (hg : l.any badSt = false) (hs : 1 ≤ s1) (bs : List Bl) : crB s1 s2 s3 (wF l) bs = rkF l s1 s2 s3 bs := by
  unfold crB rkF
  congr 1
  funext k
  unfold okAt rkAt
  rw [val_al hg hs]
theorem rkF_no {l : List St} {s1 s2 s3 : Int} {bs : List Bl} {k : Nat} (hk : k < bs.length) (h : rkAt l s1 s2 s3 bs k = false) : rkF l s1 s2 s3 bs = false := by
  cases hc : rkF l s1 s2 s3 bs with
  | false => rfl
  | true =>
    unfold rkF at hc
    rw [List.all_eq_true] at hc
    rw [hc k (by simpa using hk)] at h
    cases h
theorem rkF_yes {l : List St} {s1 s2 s3 : Int} {bs : List Bl} (h : ∀ k, k < bs.length → rkAt l s1 s2 s3 bs k = true) : rkF l s1 s2 s3 bs = true := by
  unfold rkF
  rw [List.all_eq_true]
  exact fun k hk => h k (by simpa using hk)
theorem rkF_at {l : List St} {s1 s2 s3 : Int} {bs : List Bl} (h : rkF l s1 s2 s3 bs = true) {k : Nat} {x : Bl} (hk : bs[k]? = some x) : alF l s1 s2 x.1 x.2 = true := by
  unfold rkF at h
  rw [List.all_eq_true] at h
  have := h k (by simpa using (List.getElem?_eq_some_iff.1 hk).1)
  unfold rkAt at this
  rw [getD_of hk, Bool.and_eq_true] at this
  exact this.1
/-- The document's total. -/
def rsum (l : List St) (bs : List Bl) : Int := (bs.map fun x => (x.2 - x.1) * (woF x.1 x.2 l).2).sum
theorem rsum_snoc (l : List St) (bs : List Bl) (x : Bl) : rsum l (bs ++ [x]) = rsum l bs + (x.2 - x.1) * (woF x.1 x.2 l).2 := by simp [rsum]
theorem sumV_rsum {l : List St} {s1 s2 : Int} (hg : l.any badSt = false) : ∀ bs : List Bl, (∀ x ∈ bs, alF l s1 s2 x.1 x.2 = true) → sumV s1 s2 (wF l) bs = rsum l bs
  | [], _ => rfl
  | x :: bs, h => by
    have ih := sumV_rsum hg bs (fun y hy => h y (List.mem_cons_of_mem _ hy))
    have hx := val_wo hg (h x List.mem_cons_self)
    simp only [sumV, rsum, List.map_cons, List.sum_cons] at *
    omega
theorem rsum_bd {l : List St} {s1 s2 : Int} (hg : l.any badSt = false) (hs : s2 ≤ 600) (bs : List Bl) (h : ∀ x ∈ bs, alF l s1 s2 x.1 x.2 = true) : -600 * (bs.length : Int) ≤ rsum l bs ∧ rsum l bs ≤ 600000 * (bs.length : Int) := by
  rw [← sumV_rsum hg bs h]
  exact sumV_bd hs (wF_in hg) bs
theorem rk_mem {l : List St} {s1 s2 s3 : Int} {bs : List Bl} (h : rkF l s1 s2 s3 bs = true) : ∀ x ∈ bs, alF l s1 s2 x.1 x.2 = true := fun x hx => by
  obtain ⟨k, hk⟩ := List.mem_iff_getElem?.1 hx
  exact rkF_at h hk

set_option maxHeartbeats 1000000 in
theorem refTotal_any (A : Option Addr) (n cap B : Nat) (l : List St) (s1 s2 : Int) (A2 : Option Addr) (n2 cap2 B2 : Nat) (bs : List Bl) (w : World) (h : Sl eII 2 w B A n l) (hB : B ≤ w.heap.size) (hn : n ≤ 1000) (hg : l.any badSt = false) (hs : s2 ≤ 600)
    (h2 : Sl eII 2 w B2 A2 n2 bs) (hB2 : B2 ≤ w.heap.size) (hn2 : n2 ≤ 100000) (ha : ∀ x ∈ bs, alF l s1 s2 x.1 x.2 = true) (hlf : lenF l ≤ 3000) :
    Calls Try.prog 19 #[.slice A n cap, .slice A2 n2 cap2] w fun e w' => e = .returned (.int .i64 (rsum l bs)) ∧ Below w.heap.size w w' := by
  have HA := Lib.hid ha
  have hlen2 := h2.len
  have V := Lib.hid (fun W (hb : Below w.heap.size w W) f t (hf : 0 ≤ f ∧ f ≤ 1000000) (ht : 0 ≤ t ∧ t ≤ 1000000) => refValue_any A n cap B l f t W (h.below (hb.mono hB)) (Nat.le_trans hB hb.size) hn hg hf ht)
  clear ha
  go_enter Try.func19, Try.ntmps19
  go_wp2
  go_loopw [5, 6] (fun s i wr => ∃ k : Nat, k ≤ n2 ∧ i = .int .i64 k ∧ s = .int .i64 (rsum l (bs.take k)) ∧ Below w.heap.size w wr) (fun _ i _ => n2 - (intOf i).toNat)
  case atStart => exact ⟨0, Nat.zero_le _, rfl, rfl, Below.refl _ _⟩
  case round =>
    obtain ⟨k, hk, rfl, rfl, hbl⟩ := hrel
    by_cases hlt : k < n2
    · obtain ⟨x, hx⟩ := h2.get hlt
      obtain ⟨b, off, rfl, hb, c1, c2⟩ := (h2.below (hbl.mono hB2)).at2 hx
      obtain ⟨x1, x2⟩ := x
      have hal := HA.out (x1, x2) (List.mem_of_getElem? hx)
      have hao := al_out hal
      have htl : (bs.take k).length ≤ k := List.length_take_le _ _
      have hb0 := rsum_bd hg hs (bs.take k) (fun y hy => HA.out y (List.mem_of_mem_take hy))
      have hb1 := rsum_bd hg hs (bs.take k ++ [(x1, x2)]) (fun y hy => by
        rcases List.mem_append.1 hy with hy | hy
        · exact HA.out y (List.mem_of_mem_take hy)
        · simp at hy; subst hy; exact hal)
      rw [rsum_snoc] at hb1
      simp only [List.length_append, List.length_singleton] at hb1
      have SN := Lib.hid (show rsum l (bs.take (k + 1)) = rsum l (bs.take k) + (x2 - x1) * (woF x1 x2 l).2 by rw [take_snoc hx, rsum_snoc])
      have V1 := Lib.hid (V.out wr hbl x1 x2 (by omega) (by omega))
      simp only at c1 c2
      clear hx hal
      generalize rsum l (bs.take k) = s0 at *
      generalize (x2 - x1) * (woF x1 x2 l).2 = v at *
      have hbw : b < wr.heap.size := by have := hbl.size; omega
      go_wp2_with (go_at_call 28; refine V1.out.mono ?_; rintro e w1 ⟨rfl, hb1⟩)
      go_roundw
      case rel => exact ⟨k + 1, by omega, by go_num, by rw [SN.out], thru hbl hb1⟩
      case measure => simp [intOf]; omega
    · have ht : bs.take k = bs := List.take_of_length_le (by omega)
      rw [ht]
      go_wp2
      go_ret
      exact ⟨rfl, hbl⟩
end Go.Proofs.Ytlkfcbdbieenhaa
