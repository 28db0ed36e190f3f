/-
  Chapter 6: maps that are turned, without a program in sight.
-/
import Derived.Test.YtgjokhodccacoaaDoorSRecB
set_option linter.unusedSimpArgs false
set_option linter.unusedVariables false
namespace Go.Proofs.YtgjokhodccacoaaDoor
open Go.RowKit Go.Vm
/-- A place in a grid: column, row, width, height. -/
structure Pl where
  x : Nat
  y : Nat
  w : Nat
  h : Nat
def Pl.ok (p : Pl) : Prop := p.x < p.w ∧ p.y < p.h
def Pl.at (p : Pl) : Nat := p.y * p.w + p.x
/-- A place in the grid that is turned once. -/
def Pl.st (p : Pl) : Pl := ⟨p.h - 1 - p.y, p.x, p.h, p.w⟩
def itP : Nat → Pl → Pl
  | 0, p => p
  | q + 1, p => (itP q p).st
theorem st_ok {p : Pl} (h : p.ok) : p.st.ok := ⟨by have := h.2; show p.h - 1 - p.y < p.h; omega, h.1⟩
theorem it_ok {p : Pl} (h : p.ok) : ∀ q, (itP q p).ok
  | 0 => h
  | q + 1 => st_ok (it_ok h q)
theorem at_lt {p : Pl} (h : p.ok) : p.at < p.w * p.h := by
  obtain ⟨h1, h2⟩ := h
  unfold Pl.at
  have : p.y * p.w + p.w ≤ p.h * p.w := by
    rw [← Nat.succ_mul]
    exact Nat.mul_le_mul_right _ h2
  rw [Nat.mul_comm p.w p.h]
  omega
theorem it_dim (q : Nat) (p : Pl) : (itP q p).w * (itP q p).h = p.w * p.h := by
  induction q with
  | zero => rfl
  | succ q ih =>
    show (itP q p).h * (itP q p).w = _
    rw [Nat.mul_comm, ih]
theorem it_wh : ∀ (q : Nat) (p : Pl), (itP q p).w = (if q % 2 = 1 then p.h else p.w) ∧ (itP q p).h = (if q % 2 = 1 then p.w else p.h)
  | 0, p => ⟨rfl, rfl⟩
  | q + 1, p => by
    obtain ⟨h1, h2⟩ := it_wh q p
    show (itP q p).h = _ ∧ (itP q p).w = _
    rw [h1, h2]
    rcases Nat.mod_two_eq_zero_or_one q with h | h
    · rw [h, show (q + 1) % 2 = 1 by omega]; exact ⟨rfl, rfl⟩
    · rw [h, show (q + 1) % 2 = 0 by omega]; exact ⟨rfl, rfl⟩
theorem at_inj {p p' : Pl} (h : p.ok) (h' : p'.ok) (hw : p.w = p'.w) (e : p.at = p'.at) : p.x = p'.x ∧ p.y = p'.y := by
  obtain ⟨h1, _⟩ := h
  obtain ⟨h2, _⟩ := h'
  unfold Pl.at at e
  rw [hw] at h1 e
  have hpos : 0 < p'.w := by omega
  have e1 := congrArg (· % p'.w) e
  have e2 := congrArg (· / p'.w) e
  simp only [Nat.mul_add_mod_self_right, Nat.mul_comm _ p'.w, Nat.mul_add_mod, Nat.mod_eq_of_lt h1, Nat.mod_eq_of_lt h2, Nat.mul_add_div hpos, Nat.div_eq_of_lt h1, Nat.div_eq_of_lt h2, Nat.add_zero] at e1 e2
  exact ⟨e1, e2⟩
theorem st_inj {p p' : Pl} (h : p.ok) (h' : p'.ok) (hw : p.w = p'.w) (hh : p.h = p'.h) (e : p.st.x = p'.st.x ∧ p.st.y = p'.st.y) : p.x = p'.x ∧ p.y = p'.y := by
  obtain ⟨e1, e2⟩ := e
  refine ⟨e2, ?_⟩
  have e1 : p.h - 1 - p.y = p'.h - 1 - p'.y := e1
  have := h.2
  have := h'.2
  omega
theorem it_inj {p p' : Pl} (h : p.ok) (h' : p'.ok) (hw : p.w = p'.w) (hh : p.h = p'.h) : ∀ q, (itP q p).at = (itP q p').at → p.x = p'.x ∧ p.y = p'.y := by
  have dim : ∀ q, (itP q p).w = (itP q p').w ∧ (itP q p).h = (itP q p').h := fun q => by
    rw [(it_wh q p).1, (it_wh q p).2, (it_wh q p').1, (it_wh q p').2, hw, hh]; exact ⟨rfl, rfl⟩
  have key : ∀ q, (itP q p).x = (itP q p').x ∧ (itP q p).y = (itP q p').y → p.x = p'.x ∧ p.y = p'.y := by
    intro q
    induction q with
    | zero => exact fun e => e
    | succ q ih => exact fun e => ih (st_inj (it_ok h q) (it_ok h' q) (dim q).1 (dim q).2 e)
  exact fun q e => key q (at_inj (it_ok h q) (it_ok h' q) (dim q).1 e)
theorem it_surj : ∀ (q : Nat) (w h x y : Nat), x < (itP q ⟨0, 0, w, h⟩).w → y < (itP q ⟨0, 0, w, h⟩).h → ∃ x0 y0, x0 < w ∧ y0 < h ∧ itP q ⟨x0, y0, w, h⟩ = ⟨x, y, (itP q ⟨0, 0, w, h⟩).w, (itP q ⟨0, 0, w, h⟩).h⟩
  | 0, w, h, x, y, h1, h2 => ⟨x, y, h1, h2, rfl⟩
  | q + 1, w, h, x, y, h1, h2 => by
    have h1 : x < (itP q ⟨0, 0, w, h⟩).h := h1
    have h2 : y < (itP q ⟨0, 0, w, h⟩).w := h2
    obtain ⟨x0, y0, e1, e2, e3⟩ := it_surj q w h y ((itP q ⟨0, 0, w, h⟩).h - 1 - x) h2 (by omega)
    refine ⟨x0, y0, e1, e2, ?_⟩
    show (itP q ⟨x0, y0, w, h⟩).st = _
    rw [e3]
    have hx : (itP q ⟨0, 0, w, h⟩).h - 1 - ((itP q ⟨0, 0, w, h⟩).h - 1 - x) = x := by omega
    show (⟨(itP q ⟨0, 0, w, h⟩).h - 1 - ((itP q ⟨0, 0, w, h⟩).h - 1 - x), y, _, _⟩ : Pl) = _
    rw [hx]
    rfl
/-- Where a cell goes. -/
def dst (W H q i : Nat) : Nat := (itP q ⟨i % W, i / W, W, H⟩).at
theorem pl_ok {W H i : Nat} (hi : i < W * H) : (⟨i % W, i / W, W, H⟩ : Pl).ok := by
  have hW : 0 < W := by
    rcases Nat.eq_zero_or_pos W with h | h
    · subst h; simp at hi
    · exact h
  exact ⟨Nat.mod_lt _ hW, (Nat.div_lt_iff_lt_mul hW).2 (by rw [Nat.mul_comm]; exact hi)⟩
theorem dst_lt {W H q i : Nat} (hi : i < W * H) : dst W H q i < W * H := by
  have := at_lt (it_ok (pl_ok hi) q)
  rwa [it_dim] at this
theorem dst_inj {W H q i j : Nat} (hi : i < W * H) (hj : j < W * H) (e : dst W H q i = dst W H q j) : i = j := by
  obtain ⟨e1, e2⟩ := it_inj (pl_ok hi) (pl_ok hj) rfl rfl q e
  have e1 : i % W = j % W := e1
  have e2 : i / W = j / W := e2
  rw [← Nat.div_add_mod i W, ← Nat.div_add_mod j W, e1, e2]
theorem dst_at {W H q x y : Nat} (hx : x < W) (hy : y < H) : dst W H q (y * W + x) = (itP q ⟨x, y, W, H⟩).at := by
  unfold dst
  have hpos : 0 < W := by omega
  rw [Nat.mul_comm y W, Nat.mul_add_mod, Nat.mod_eq_of_lt hx, Nat.mul_add_div hpos, Nat.div_eq_of_lt hx, Nat.add_zero]
theorem dst_surj {W H q j : Nat} (hj : j < W * H) : ∃ i, i < W * H ∧ dst W H q i = j := by
  have hd := it_dim q ⟨0, 0, W, H⟩
  have hj' : j < (itP q ⟨0, 0, W, H⟩).w * (itP q ⟨0, 0, W, H⟩).h := by rw [hd]; exact hj
  obtain ⟨h1, h2⟩ := pl_ok hj'
  obtain ⟨x0, y0, e1, e2, e3⟩ := it_surj q W H _ _ h1 h2
  refine ⟨y0 * W + x0, at_lt (p := ⟨x0, y0, W, H⟩) ⟨e1, e2⟩, ?_⟩
  rw [dst_at e1 e2, e3]
  show j / _ * _ + j % _ = j
  rw [Nat.mul_comm]
  exact Nat.div_add_mod _ _

/-- What has been written when so many cells are turned. -/
def outF (W H q : Nat) (xs : List Int) : Nat → List Int
  | 0 => List.replicate (W * H) 0
  | k + 1 => (outF W H q xs k).set (dst W H q k) (nth xs k)
theorem outF_len {W H q : Nat} {xs : List Int} : ∀ k, (outF W H q xs k).length = W * H
  | 0 => by simp [outF]
  | k + 1 => by simp [outF, outF_len k]
theorem nth_set {xs : List Int} {i j : Nat} {v : Int} (hi : i < xs.length) : nth (xs.set i v) j = if j = i then v else nth xs j := by
  unfold nth
  rw [List.getD_eq_getElem?_getD, List.getD_eq_getElem?_getD, List.getElem?_set]
  by_cases h : i = j
  · subst h; simp [hi]
  · rw [if_neg h, if_neg (fun e => h e.symm)]
theorem outF_at {W H q : Nat} {xs : List Int} : ∀ k, k ≤ W * H → ∀ i, i < k → nth (outF W H q xs k) (dst W H q i) = nth xs i
  | 0, _, i, hi => by omega
  | k + 1, hk, i, hi => by
    rw [outF, nth_set (by rw [outF_len]; exact dst_lt (by omega))]
    by_cases h : i = k
    · subst h; rw [if_pos rfl]
    · rw [if_neg (fun e => h (dst_inj (by omega) (by omega) e)), outF_at k (by omega) i (by omega)]
/-- A map turned. -/
def trnF (W H q : Nat) (xs : List Int) : List Int := outF W H q xs (W * H)
theorem trn_len {W H q : Nat} {xs : List Int} : (trnF W H q xs).length = W * H := outF_len _
theorem trn_at {W H q i : Nat} {xs : List Int} (hi : i < W * H) : nth (trnF W H q xs) (dst W H q i) = nth xs i := outF_at _ (Nat.le_refl _) i hi
/-- What stands at each place of a map says which map it is. -/
theorem trn_ext {W H q : Nat} {xs ys : List Int} (hy : ys.length = W * H) (h : ∀ i, i < W * H → nth ys (dst W H q i) = nth xs i) : ys = trnF W H q xs := by
  refine eq_nth (by rw [hy, trn_len]) fun j hj => ?_
  obtain ⟨i, hi, rfl⟩ := dst_surj (q := q) (show j < W * H by omega)
  rw [h i hi, trn_at hi]
theorem trn_0 {W H : Nat} {xs : List Int} (hx : xs.length = W * H) : trnF W H 0 xs = xs := by
  refine (trn_ext hx fun i hi => ?_).symm
  unfold dst
  show nth xs (i / W * W + i % W) = _
  rw [Nat.mul_comm, Nat.div_add_mod]
def wOf (W H q : Nat) : Nat := if q % 2 = 1 then H else W
theorem dst_dst {W H p q i : Nat} (hi : i < W * H) : dst (wOf W H p) (wOf H W p) q (dst W H p i) = dst W H (q + p) i := by
  have hok := it_ok (pl_ok hi) p
  have e : dst W H p i = (itP p ⟨i % W, i / W, W, H⟩).y * (wOf W H p) + (itP p ⟨i % W, i / W, W, H⟩).x := by
    unfold dst Pl.at
    rw [(it_wh p _).1]
    rfl
  have hw : (itP p ⟨i % W, i / W, W, H⟩).w = wOf W H p := (it_wh p _).1
  have hh : (itP p ⟨i % W, i / W, W, H⟩).h = wOf H W p := (it_wh p _).2
  rw [e, dst_at (by rw [← hw]; exact hok.1) (by rw [← hh]; exact hok.2)]
  have e2 : (⟨(itP p ⟨i % W, i / W, W, H⟩).x, (itP p ⟨i % W, i / W, W, H⟩).y, wOf W H p, wOf H W p⟩ : Pl) = itP p ⟨i % W, i / W, W, H⟩ := by rw [← hw, ← hh]
  rw [e2]
  unfold dst
  congr 1
  clear e e2 hw hh hok
  induction q with
  | zero => simp [itP]
  | succ q ih => rw [Nat.succ_add]; simp only [itP]; rw [ih]
theorem wOf_mul {W H p : Nat} : wOf W H p * wOf H W p = W * H := by
  unfold wOf
  split
  · exact Nat.mul_comm _ _
  · rfl
/-- Turned twice. -/
theorem trn_trn {W H p q : Nat} {xs : List Int} : trnF (wOf W H p) (wOf H W p) q (trnF W H p xs) = trnF W H (q + p) xs := by
  refine trn_ext (by rw [trn_len, wOf_mul]) fun i hi => ?_
  rw [← dst_dst hi, trn_at (by rw [wOf_mul]; exact dst_lt hi), trn_at hi]
theorem st4 (p : Pl) (h : p.ok) : itP 4 p = p := by
  obtain ⟨h1, h2⟩ := h
  obtain ⟨x, y, w, hh⟩ := p
  show (⟨_, _, _, _⟩ : Pl) = _
  simp only [itP, Pl.st] at *
  congr 1
  · omega
  · omega
theorem dst_mod {W H q i : Nat} (hi : i < W * H) : dst W H (q % 4) i = dst W H q i := by
  have key : ∀ k p, Pl.ok p → itP (4 * k + q % 4) p = itP (q % 4) p := by
    intro k
    induction k with
    | zero => intro p _; rw [Nat.mul_zero, Nat.zero_add]
    | succ k ih =>
      intro p hp
      have add : ∀ a b p, itP (a + b) p = itP a (itP b p) := by
        intro a
        induction a with
        | zero => intro b p; rw [Nat.zero_add]; rfl
        | succ a ih => intro b p; rw [Nat.succ_add]; simp only [itP]; rw [ih]
      rw [show 4 * (k + 1) + q % 4 = 4 * k + q % 4 + 4 by omega, add, st4 p hp, ih p hp]
  unfold dst
  have := key (q / 4) _ (pl_ok hi)
  rw [Nat.div_add_mod] at this
  rw [this]
theorem trn_mod {W H q : Nat} {xs : List Int} : trnF W H (q % 4) xs = trnF W H q xs := by
  refine trn_ext trn_len fun i hi => ?_
  rw [← dst_mod hi, trn_at hi]

theorem nth_app {α : Type} [Inhabited α] {a b : List α} {i : Nat} : nth (a ++ b) i = if i < a.length then nth a i else nth b (i - a.length) := by
  unfold nth
  rw [List.getD_eq_getElem?_getD, List.getD_eq_getElem?_getD, List.getD_eq_getElem?_getD, List.getElem?_append]
  split <;> rfl
end Go.Proofs.YtgjokhodccacoaaDoor
