/-
  TopWeighed, tenth walks: isCharge, weigh, Weigh.
-/
import Derived.Test.YthpnikalelookaaTwW9
namespace Go.Proofs.Ythpnikalelookaa
open Go.RowKit

/-- Whether the numbers of pieces are a charge. -/
def fitC : List LotP → List Int → Bool
  | [], [] => true
  | x :: l, n :: ns => inB n 0 x.cnt && fitC l ns
  | _, _ => false
theorem fitC_len {l : List LotP} {ns : List Int} (h : fitC l ns = true) : ns.length = l.length := by
  induction l generalizing ns with
  | nil => cases ns with
    | nil => rfl
    | cons => simp [fitC] at h
  | cons x l ih => cases ns with
    | nil => simp [fitC] at h
    | cons n ns => simp only [fitC, Bool.and_eq_true] at h; simp [ih h.2]
theorem fitC_at {l : List LotP} {ns : List Int} (h : fitC l ns = true) {k : Nat} {x : LotP} {n : Int} (hx : l[k]? = some x) (hn : ns[k]? = some n) : inB n 0 x.cnt = true := by
  induction l generalizing ns k with
  | nil => simp at hx
  | cons y l ih => cases ns with
    | nil => simp [fitC] at h
    | cons m ns =>
      simp only [fitC, Bool.and_eq_true] at h
      cases k with
      | zero => simp at hx hn; subst hx hn; exact h.1
      | succ k => exact ih h.2 (by simpa using hx) (by simpa using hn)
theorem fitC_of {l : List LotP} {ns : List Int} (hl : ns.length = l.length) (h : ∀ (k : Nat) (x : LotP) (n : Int), l[k]? = some x → ns[k]? = some n → inB n 0 x.cnt = true) : fitC l ns = true := by
  induction l generalizing ns with
  | nil => cases ns with
    | nil => rfl
    | cons => simp at hl
  | cons x l ih => cases ns with
    | nil => simp at hl
    | cons n ns =>
      simp only [fitC, Bool.and_eq_true]
      exact ⟨h 0 x n rfl rfl, ih (by simpa using hl) (fun k y m hy hm => h (k + 1) y m (by simpa using hy) (by simpa using hm))⟩
theorem fitC_bad {l : List LotP} {ns : List Int} {k : Nat} {x : LotP} {n : Int} (hx : l[k]? = some x) (hn : ns[k]? = some n) (hb : inB n 0 x.cnt = false) : fitC l ns = false := by
  cases h : fitC l ns
  · rfl
  · rw [fitC_at h hx hn] at hb; cases hb
theorem fitC_ne {l : List LotP} {ns : List Int} (h : ns.length ≠ l.length) : fitC l ns = false := by
  cases h2 : fitC l ns
  · rfl
  · exact absurd (fitC_len h2) h

set_option maxHeartbeats 1000000 in
theorem isCharge_any (A : Option Addr) (n cap B : Nat) (l : List LotP) (A2 : Option Addr) (n2 cap2 B2 : Nat) (ns : List Int) (ml mh t0 u0 t1 u1 t2 u2 : Int) (w : World) (h : Sl eLot 9 w B A n l) (hB : B ≤ w.heap.size) (hn : n ≤ 1000000)
    (h2 : Sl eI 1 w B2 A2 n2 ns) (hB2 : B2 ≤ w.heap.size) (_hn2 : n2 ≤ 1000000) :
    Calls Try.prog 12 #[vM A n cap ml mh t0 u0 t1 u1 t2 u2, .slice A2 n2 cap2] w fun e w' => e = .returned (.bool (fitC l ns)) ∧ Below w.heap.size w w' := by
  have hlen := h.len
  have hlen2 := h2.len
  unfold vM
  go_enter Try.func12, Try.ntmps12
  go_wp2
  go_loopw [9] (fun i wr => ∃ k : Nat, k ≤ n2 ∧ k ≤ n ∧ i = .int .i64 k ∧ (∀ j x m, j < k → l[j]? = some x → ns[j]? = some m → inB m 0 x.cnt = true) ∧ Below w.heap.size w wr ∧ w.heap.size < wr.heap.size ∧ wr.cell? ⟨w.heap.size, 0, none⟩ = some (.slice A n cap)) (fun i _ => n2 - (intOf i).toNat)
  case atStart => exact ⟨0, Nat.zero_le _, Nat.zero_le _, rfl, fun j x m hj => by omega, (Below.refl _ _).alloc (Nat.le_refl _) _, by simp, by simp⟩
  case round =>
    obtain ⟨k, hk, hkn, rfl, hall, hbl, hlt, c0⟩ := hrel
    have HA := Lib.hid hall
    clear hall
    by_cases hk2 : k < n2
    · obtain ⟨m, hm⟩ := h2.get hk2
      obtain ⟨b2, off2, rfl, hb2, d1⟩ := (h2.below (hbl.mono hB2)).at1 hm
      have HM := Lib.hid hm
      clear hm
      by_cases hk1 : k < n
      · obtain ⟨x, hx⟩ := h.get hk1
        obtain ⟨b, off, rfl, hb, e0, -⟩ := (h.below (hbl.mono hB)).atLot hx
        have HX := Lib.hid hx
        clear hx
        cases hin : inB m 0 x.cnt
        · have HI := Lib.hid hin
          go_wp2_with (go_at_call 31; refine (within_any _ _ _ _).mono ?_; rintro e w' ⟨rfl, rfl⟩)
          go_ret
          exact ⟨ret_bool (fitC_bad HX.out HM.out HI.out).symm, hbl⟩
        · have HI := Lib.hid hin
          go_wp2_with (go_at_call 31; refine (within_any _ _ _ _).mono ?_; rintro e w' ⟨rfl, rfl⟩)
          go_roundw
          case rel =>
            refine ⟨k + 1, by omega, by omega, by go_num, ?_, hbl, hlt, c0⟩
            intro j y q hj hy hq
            by_cases hjk : j < k
            · exact HA.out j y q hjk hy hq
            · obtain rfl : j = k := by omega
              have e1 := HX.out; have e2 := HM.out
              rw [e1] at hy; rw [e2] at hq
              cases hy; cases hq
              exact HI.out
          case measure => simp [intOf]; omega
      · go_wp2
        go_ret
        exact ⟨ret_bool (fitC_ne (by omega)).symm, hbl⟩
    · by_cases heq : n2 = n
      · subst heq
        go_wp2
        go_ret
        exact ⟨ret_bool (fitC_of (by omega) (fun j x m hx hm => HA.out j x m (by have := (List.getElem?_eq_some_iff.1 hm).1; omega) hx hm)).symm, hbl⟩
      · go_wp2
        go_ret
        exact ⟨ret_bool (by rw [fitC_ne (by omega)]; simp; omega), hbl⟩
end Go.Proofs.Ythpnikalelookaa
