/-
  Chapter 6: the law RecordTurned: turned maps in plain terms.
-/
import Derived.Test.YtgjokhodccacoaaDoorSRecC5
set_option linter.unusedSimpArgs false
set_option linter.unusedVariables false
namespace Go.Proofs.YtgjokhodccacoaaDoor
open Go.RowKit Go.Vm
set_option maxRecDepth 100000
theorem trn_nth {W H q j : Nat} {xs : List Int} (hj : j < W * H) : ∃ i, i < W * H ∧ dst W H q i = j ∧ nth (trnF W H q xs) j = nth xs i := by
  obtain ⟨i, h1, h2⟩ := dst_surj (q := q) hj
  exact ⟨i, h1, h2, by rw [← h2, trn_at h1]⟩
theorem mOK_mk {w h : Nat} {xs : List Int} (h1 : 1 ≤ w) (h2 : w ≤ 60) (h3 : 1 ≤ h) (h4 : h ≤ 60) (h5 : xs.length = w * h) (h6 : ∀ i, i < xs.length → 0 ≤ nth xs i ∧ nth xs i ≤ 7) : mOK w h xs = true := by
  unfold mOK inT
  simp only [Bool.and_eq_true, decide_eq_true_eq, List.all_eq_true]
  refine ⟨⟨⟨⟨by omega, by omega⟩, by omega, by omega⟩, by rw [h5]; simp⟩, fun x hx => ?_⟩
  obtain ⟨i, hi⟩ := List.getElem?_of_mem hx
  have hlt := (List.getElem?_eq_some_iff.1 hi).1
  have := h6 i hlt
  rw [nth_of hi] at this
  exact this
theorem mOK_cell {W H : Int} {xs : List Int} (h : mOK W H xs = true) : ∀ i, i < xs.length → 0 ≤ nth xs i ∧ nth xs i ≤ 7 := by
  intro i hi
  unfold mOK at h
  simp only [Bool.and_eq_true, List.all_eq_true] at h
  exact inT_ok (h.2 _ (nth_mem hi))
theorem wOf_60 {w h q : Nat} (h1 : 1 ≤ w) (h2 : w ≤ 60) (h3 : 1 ≤ h) (h4 : h ≤ 60) : 1 ≤ wOf w h q ∧ wOf w h q ≤ 60 := by
  unfold wOf
  split <;> omega
theorem mOK_trn {w h q : Nat} {xs : List Int} (hm : mOK w h xs = true) : mOK (wOf w h q : Nat) (wOf h w q : Nat) (trnF w h q xs) = true := by
  obtain ⟨w', h', e1, e2, a1, a2, a3, a4, a5, a6⟩ := mOK_parts hm
  obtain rfl : w = w' := by omega
  obtain rfl : h = h' := by omega
  have hc := mOK_cell hm
  have b1 := wOf_60 (q := q) a1 a2 a3 a4
  have b2 := wOf_60 (q := q) a3 a4 a1 a2
  refine mOK_mk b1.1 b1.2 b2.1 b2.2 (by rw [trn_len, wOf_mul]) fun j hj => ?_
  rw [trn_len] at hj
  obtain ⟨i, i1, i2, i3⟩ := trn_nth (q := q) (xs := xs) hj
  rw [i3]
  exact hc i (by omega)
theorem turnR_ok {w h q : Nat} {xs : List Int} (hm : mOK w h xs = true) (hq : q ≤ 3) : turnR w h xs q = (trnF w h q xs, (wOf w h q : Int), (wOf h w q : Int), 0) := by
  have h2 : inT (q : Int) 0 3 = true := by unfold inT; simp only [Bool.and_eq_true, decide_eq_true_eq]; omega
  unfold turnR
  rw [hm, h2]
  simp only [if_true, Int.toNat_natCast]
theorem wOf_two {w h p r : Nat} : wOf (wOf w h p) (wOf h w p) r = wOf w h ((p + r) % 4) := by
  unfold wOf
  by_cases hp : p % 2 = 1
  · by_cases hr : r % 2 = 1
    · rw [if_pos hp, if_pos hp, if_pos hr, if_neg (by omega)]
    · rw [if_pos hp, if_pos hp, if_neg hr, if_pos (by omega)]
  · by_cases hr : r % 2 = 1
    · rw [if_neg hp, if_neg hp, if_pos hr, if_pos (by omega)]
    · rw [if_neg hp, if_neg hp, if_neg hr, if_neg (by omega)]
theorem turn_two {w h p r : Nat} {xs : List Int} (hm : mOK w h xs = true) (hr : r ≤ 3) : turnR (wOf w h p : Nat) (wOf h w p : Nat) (trnF w h p xs) r = turnR w h xs ((p + r) % 4 : Nat) := by
  rw [turnR_ok (mOK_trn hm) hr, turnR_ok hm (by omega), trn_trn, trn_mod, wOf_two, wOf_two, Nat.add_comm r p]
theorem turn_back {w h p : Nat} {xs : List Int} (hm : mOK w h xs = true) (hp : p ≤ 3) : turnR (wOf w h p : Nat) (wOf h w p : Nat) (trnF w h p xs) ((4 - p) % 4 : Nat) = (xs, (w : Int), (h : Int), 0) := by
  rw [turn_two hm (by omega), show (p + (4 - p) % 4) % 4 = 0 by omega]
  exact turnR_0 hm
theorem max_c (a b : Int) : max a b = max b a := by omega
theorem mx_comm {xs ys : List Int} : ∀ k, mxF xs ys k = mxF ys xs k
  | 0 => rfl
  | k + 1 => by rw [mxF, mxF, mx_comm k, max_c]
theorem ws_comm {W H W' H' : Int} {xs ys : List Int} : wsOK W H xs W' H' ys = wsOK W' H' ys W H xs := by
  unfold wsOK
  rw [Bool.eq_iff_iff]
  simp only [Bool.and_eq_true, decide_eq_true_eq]
  constructor
  · rintro ⟨⟨⟨a, b⟩, rfl⟩, rfl⟩; exact ⟨⟨⟨b, a⟩, rfl⟩, rfl⟩
  · rintro ⟨⟨⟨a, b⟩, rfl⟩, rfl⟩; exact ⟨⟨⟨b, a⟩, rfl⟩, rfl⟩
theorem wor_comm {W H W' H' : Int} {xs ys : List Int} : worR W H xs W' H' ys = worR W' H' ys W H xs := by
  unfold worR
  rw [ws_comm]
  cases h : wsOK W' H' ys W H xs with
  | false => rfl
  | true =>
    obtain ⟨a1, a2, rfl, rfl⟩ := ws_parts h
    have b1 := (mOK_len a1).1
    have b2 := (mOK_len a2).1
    have : xs.length = ys.length := by omega
    simp only [if_true]
    rw [mx_comm, this]
theorem ws_mk {W H : Int} {xs ys : List Int} (h1 : mOK W H xs = true) (h2 : mOK W H ys = true) : wsOK W H xs W H ys = true := by
  unfold wsOK
  simp [h1, h2]
theorem wor_ok {W H : Int} {xs ys : List Int} (h1 : mOK W H xs = true) (h2 : mOK W H ys = true) : worR W H xs W H ys = (mxF xs ys xs.length, W, H, 0) := by
  unfold worR
  rw [ws_mk h1 h2]
  rfl
theorem mOK_mx {w h : Nat} {xs ys : List Int} (h1 : mOK w h xs = true) (h2 : mOK w h ys = true) : mOK w h (mxF xs ys xs.length) = true := by
  obtain ⟨w', h', e1, e2, a1, a2, a3, a4, a5, a6⟩ := mOK_parts h1
  obtain rfl : w = w' := by omega
  obtain rfl : h = h' := by omega
  have c1 := mOK_cell h1
  have c2 := mOK_cell h2
  have l1 := (mOK_len h1).1
  have l2 := (mOK_len h2).1
  refine mOK_mk a1 a2 a3 a4 (by rw [mx_len, a5]) fun i hi => ?_
  rw [mx_len] at hi
  rw [mx_at hi]
  have d1 := c1 i hi
  have d2 := c2 i (by omega)
  omega
theorem trn_mx {w h q : Nat} {xs ys : List Int} (hx : xs.length = w * h) (hy : ys.length = w * h) : mxF (trnF w h q xs) (trnF w h q ys) (trnF w h q xs).length = trnF w h q (mxF xs ys xs.length) := by
  rw [trn_len, hx]
  refine trn_ext (mx_len _) fun i hi => ?_
  rw [mx_at (dst_lt hi), mx_at hi, trn_at hi, trn_at hi]
/-- The worst of two turned maps is the turned worst. -/
theorem turn_wor {w h p : Nat} {xs ys : List Int} (hp : p ≤ 3) (h1 : mOK w h xs = true) (h2 : mOK w h ys = true) :
    worR (wOf w h p : Nat) (wOf h w p : Nat) (trnF w h p xs) (wOf w h p : Nat) (wOf h w p : Nat) (trnF w h p ys) = turnR w h (mxF xs ys xs.length) p := by
  have l1 := (mOK_len h1).1
  have l2 := (mOK_len h2).1
  have e1 : xs.length = w * h := by have : ((w * h : Nat) : Int) = (w : Int) * h := by simp
                                    omega
  have e2 : ys.length = w * h := by have : ((w * h : Nat) : Int) = (w : Int) * h := by simp
                                    omega
  rw [turnR_ok (mOK_mx h1 h2) hp, wor_ok (mOK_trn h1) (mOK_trn h2), trn_mx e1 e2]
/- counts -/
def sumN (g : Nat → Int) : Nat → Int
  | 0 => 0
  | n + 1 => sumN g n + g n
theorem sumN_congr {f g : Nat → Int} : ∀ n, (∀ i, i < n → f i = g i) → sumN f n = sumN g n
  | 0, _ => rfl
  | n + 1, h => by rw [sumN, sumN, sumN_congr n (fun i hi => h i (by omega)), h n (by omega)]
theorem sumN_one {f g : Nat → Int} {i0 : Nat} : ∀ n, i0 < n → (∀ i, i < n → i ≠ i0 → f i = g i) → sumN f n = sumN g n - g i0 + f i0
  | 0, h0, _ => by omega
  | n + 1, h0, h => by
    rw [sumN, sumN]
    by_cases e : i0 = n
    · subst e
      rw [sumN_congr i0 (fun i hi => h i (by omega) (by omega))]
      omega
    · rw [sumN_one n (by omega) (fun i hi hne => h i (by omega) hne), h n (by omega) (fun e' => e e'.symm)]
      omega
theorem sum_perm {g : Nat → Int} : ∀ (n : Nat) (f : Nat → Nat), (∀ i, i < n → f i < n) → (∀ i j, i < n → j < n → f i = f j → i = j) → (∀ j, j < n → ∃ i, i < n ∧ f i = j) → sumN (fun i => g (f i)) n = sumN g n
  | 0, _, _, _, _ => rfl
  | n + 1, f, h1, h2, h3 => by
    obtain ⟨i0, a1, a2⟩ := h3 n (by omega)
    by_cases e : i0 = n
    · subst e
      rw [sumN, sumN, a2]
      rw [sum_perm i0 f (fun i hi => by have := h1 i (by omega); have : f i ≠ i0 := fun e => by have := h2 i i0 (by omega) (by omega) (by rw [e, a2]); omega
                                        omega) (fun i j hi hj => h2 i j (by omega) (by omega)) (fun j hj => by
        obtain ⟨i, b1, b2⟩ := h3 j (by omega)
        refine ⟨i, ?_, b2⟩
        have : i ≠ i0 := fun e => by subst e; omega
        omega)]
    · have hi0 : i0 < n := by omega
      let f' : Nat → Nat := fun i => if i = i0 then f n else f i
      have hfn : f n < n := by
        have := h1 n (by omega)
        have : f n ≠ n := fun e2 => e (h2 i0 n (by omega) (by omega) (by rw [a2, e2]))
        omega
      have hne : ∀ i, i < n → i ≠ i0 → f i < n := fun i hi hn => by
        have := h1 i (by omega)
        have : f i ≠ n := fun e2 => hn (h2 i i0 (by omega) (by omega) (by rw [a2, e2]))
        omega
      have ih := sum_perm (g := g) n f' (fun i hi => by
        show (if i = i0 then f n else f i) < n
        split
        · exact hfn
        · exact hne i hi (by assumption)) (fun i j hi hj e2 => by
        simp only [f'] at e2
        split at e2
        · split at e2
          · omega
          · have := h2 n j (by omega) (by omega) e2; omega
        · split at e2
          · have := h2 i n (by omega) (by omega) e2; omega
          · exact h2 i j (by omega) (by omega) e2) (fun j hj => by
        obtain ⟨i, b1, b2⟩ := h3 j (by omega)
        by_cases en : i = n
        · subst en
          exact ⟨i0, hi0, by show (if i0 = i0 then f i else f i0) = j; rw [if_pos rfl, b2]⟩
        · refine ⟨i, by omega, ?_⟩
          show (if i = i0 then f n else f i) = j
          rw [if_neg (fun e3 => by subst e3; omega), b2])
      rw [sumN, sumN, ← ih]
      have := sumN_one (f := fun i => g (f' i)) (g := fun i => g (f i)) (i0 := i0) n hi0 (fun i hi hn => by show g (if i = i0 then f n else f i) = g (f i); rw [if_neg hn])
      rw [this]
      show sumN (fun i => g (f i)) n + g (f n) = sumN (fun i => g (f i)) n - g (f i0) + g (if i0 = i0 then f n else f i0) + g n
      rw [if_pos rfl, a2]
      omega
def cnt (xs : List Int) (v : Int) (k : Nat) : Int := sumN (fun i => if nth xs i = v then 1 else 0) k
theorem cnt_trn {w h q : Nat} {xs : List Int} (v : Int) : cnt (trnF w h q xs) v (w * h) = cnt xs v (w * h) := by
  unfold cnt
  rw [← sum_perm (g := fun i => if nth (trnF w h q xs) i = v then 1 else 0) (w * h) (dst w h q) (fun i hi => dst_lt hi) (fun i j hi hj => dst_inj hi hj) (fun j hj => dst_surj hj)]
  exact sumN_congr _ fun i hi => by simp only [trn_at hi]
end Go.Proofs.YtgjokhodccacoaaDoor
