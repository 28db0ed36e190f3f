import Derived.Test.YtgjokhodccacoaaDoorSRecW7
set_option linter.unusedSimpArgs false
set_option linter.unusedVariables false
namespace Go.Proofs.YtgjokhodccacoaaDoor
open Go.RowKit Go.Vm
def rb (f : Nat → Nat) : Nat → Nat → Nat → Nat
 | _, 0, s => s
 | a, k + 1, s => rb f (a + 1) k (bitS s (f a))
theorem rb_app {f : Nat → Nat} : ∀ (k a l s : Nat), rb f a (k + l) s = rb f (a + k) l (rb f a k s)
 | 0, a, l, s => by rw [Nat.zero_add]; rfl
 | k + 1, a, l, s => by
  rw [show k + 1 + l = (k + l) + 1 by omega]
  show rb f (a + 1) (k + l) (bitS s (f a)) = rb f (a + (k + 1)) l (rb f (a + 1) k (bitS s (f a)))
  rw [rb_app k, show a + 1 + k = a + (k + 1) by omega]
theorem rb_lt {f : Nat → Nat} : ∀ (k a s : Nat), s < 65536 → rb f a k s < 65536
 | 0, _, s, h => h
 | k + 1, a, s, _ => rb_lt k (a + 1) _ (bitS_lt _ _)
theorem rb_congr {f g : Nat → Nat} : ∀ (k a b s : Nat), (∀ i, i < k → f (a + i) = g (b + i)) → rb f a k s = rb g b k s
 | 0, _, _, _, _ => rfl
 | k + 1, a, b, s, h => by
  show rb f (a + 1) k (bitS s (f a)) = rb g (b + 1) k (bitS s (g b))
  have h0 := h 0 (by omega)
  rw [Nat.add_zero, Nat.add_zero] at h0
  rw [h0]
  refine rb_congr k _ _ _ fun i hi => ?_
  rw [show a + 1 + i = a + (i + 1) by omega, show b + 1 + i = b + (i + 1) by omega]
  exact h (i + 1) (by omega)
theorem top_xor {c d : Nat} (hc : c < 65536) (hd : d < 65536) : (c ^^^ d) / 32768 = (c / 32768) ^^^ (d / 32768) := by
 rw [show (32768 : Nat) = 2 ^ 15 from rfl, ← Nat.shiftRight_eq_div_pow, Nat.shiftRight_xor_distrib, Nat.shiftRight_eq_div_pow, Nat.shiftRight_eq_div_pow]
theorem dbl_xor {c d : Nat} : 2 * (c ^^^ d) % 65536 = (2 * c % 65536) ^^^ (2 * d % 65536) := by
 rw [show 2 * (c ^^^ d) = (c ^^^ d) <<< 1 by rw [Nat.shiftLeft_eq]; omega, Nat.shiftLeft_xor_distrib, show (65536 : Nat) = 2 ^ 16 from rfl, Nat.xor_mod_two_pow, Nat.shiftLeft_eq, Nat.shiftLeft_eq, Nat.mul_comm c, Nat.mul_comm d]
theorem bitS_lin {c d a b : Nat} (hc : c < 65536) (hd : d < 65536) (ha : a < 2) (hb : b < 2) : bitS (c ^^^ d) (a ^^^ b) = bitS c a ^^^ bitS d b := by
 have h1 : c / 32768 < 2 := by omega
 have h2 : d / 32768 < 2 := by omega
 unfold bitS
 rw [top_xor hc hd, dbl_xor]
 generalize c / 32768 = t at *
 generalize d / 32768 = u at *
 generalize 2 * c % 65536 = x
 generalize 2 * d % 65536 = y
 have e1 : ∀ z : Nat, z < 2 → z = 0 ∨ z = 1 := fun z hz => by omega
 have k1 : x ^^^ y ^^^ 32773 = x ^^^ (y ^^^ 32773) := Nat.xor_assoc ..
 have k2 : x ^^^ y ^^^ 32773 = x ^^^ 32773 ^^^ y := by rw [Nat.xor_assoc, Nat.xor_comm y, ← Nat.xor_assoc]
 have k3 : x ^^^ y = x ^^^ 32773 ^^^ (y ^^^ 32773) := by
  rw [Nat.xor_assoc x 32773, ← Nat.xor_assoc 32773 y, Nat.xor_comm 32773 y, Nat.xor_assoc y, Nat.xor_self, Nat.xor_zero]
 rcases e1 t h1 with rfl | rfl <;> rcases e1 u h2 with rfl | rfl <;> rcases e1 a ha with rfl | rfl <;> rcases e1 b hb with rfl | rfl <;> simp <;> first | exact k1 | exact k2 | exact k3 | rfl
theorem rb_lin {f g : Nat → Nat} (hf : ∀ i, f i < 2) (hg : ∀ i, g i < 2) : ∀ (k a s t : Nat), s < 65536 → t < 65536 → rb (fun i => f i ^^^ g i) a k (s ^^^ t) = rb f a k s ^^^ rb g a k t
 | 0, _, _, _, _, _ => rfl
 | k + 1, a, s, t, hs, ht => by
  show rb _ (a + 1) k (bitS (s ^^^ t) (f a ^^^ g a)) = rb f (a + 1) k (bitS s (f a)) ^^^ rb g (a + 1) k (bitS t (g a))
  rw [bitS_lin hs ht (hf a) (hg a)]
  exact rb_lin hf hg k (a + 1) _ _ (bitS_lt _ _) (bitS_lt _ _)
def wd (f : Nat → Nat) : Nat → Nat → Nat
 | _, 0 => 0
 | a, k + 1 => f a * 2 ^ k + wd f (a + 1) k
theorem odd_xor {x : Nat} (h : x % 2 = 0) : (x ^^^ 32773) % 2 = 1 := by
 have := Nat.xor_mod_two_pow (a := x) (b := 32773) (n := 1)
 rw [show (2 : Nat) ^ 1 = 2 from rfl] at this
 rw [this, h]
 rfl
theorem rb_zero_of {f : Nat → Nat} (hf : ∀ i, f i < 2) : ∀ (k a s : Nat), k ≤ 16 → s < 65536 → rb f a k s = 0 → s = wd f a k * 2 ^ (16 - k)
 | 0, a, s, _, hs, h => by
  have h : s = 0 := h
  rw [h]
  show 0 = 0 * _
  rw [Nat.zero_mul]
 | k + 1, a, s, hk, hs, h => by
  have ih := rb_zero_of hf k (a + 1) (bitS s (f a)) (by omega) (bitS_lt _ _) h
  have hp : (2 : Nat) ^ (16 - k) = 2 * 2 ^ (16 - (k + 1)) := by
   rw [show 16 - k = (16 - (k + 1)) + 1 by omega, Nat.pow_succ, Nat.mul_comm]
  have hev : bitS s (f a) % 2 = 0 := by
   rw [ih, hp, ← Nat.mul_assoc, Nat.mul_comm _ 2, Nat.mul_assoc]
   omega
  have h2 := hf a
  have ht : s / 32768 = f a := by
   rcases Nat.decEq (s / 32768) (f a) with hne | he
   ·exfalso
    unfold bitS at hev
    rw [if_pos hne] at hev
    have := odd_xor (x := 2 * s % 65536) (by omega)
    omega
   ·exact he
  unfold bitS at ih
  rw [if_neg (by omega)] at ih
  have hw : (f a * 2 ^ k) * 2 ^ (16 - (k + 1)) = f a * 32768 := by
   rw [Nat.mul_assoc, ← Nat.pow_add, show k + (16 - (k + 1)) = 15 by omega]
  show s = (f a * 2 ^ k + wd f (a + 1) k) * 2 ^ (16 - (k + 1))
  rw [Nat.add_mul, hw, ← ht]
  rw [hp, ← Nat.mul_assoc, Nat.mul_comm _ 2, Nat.mul_assoc] at ih
  generalize wd f (a + 1) k * 2 ^ (16 - (k + 1)) = z at *
  omega
theorem wd_zero {f : Nat → Nat} : ∀ (k a : Nat), wd f a k = 0 → ∀ i, i < k → f (a + i) = 0
 | 0, _, _, i, hi => absurd hi (Nat.not_lt_zero _)
 | k + 1, a, h, i, hi => by
  have h : f a * 2 ^ k + wd f (a + 1) k = 0 := h
  have hp : 0 < 2 ^ k := Nat.pow_pos (by decide)
  cases i with
  | zero =>
   rw [Nat.add_zero]
   rcases Nat.eq_zero_or_pos (f a) with h0 | h0
   ·exact h0
   ·have := Nat.mul_pos h0 hp
    omega
  | succ i =>
   rw [show a + (i + 1) = a + 1 + i by omega]
   exact wd_zero k (a + 1) (by omega) i (by omega)
theorem rb_nil {f : Nat → Nat} : ∀ (k a : Nat), (∀ i, i < k → f (a + i) = 0) → rb f a k 0 = 0
 | 0, _, _ => rfl
 | k + 1, a, h => by
  show rb f (a + 1) k (bitS 0 (f a)) = 0
  have h0 := h 0 (by omega)
  rw [Nat.add_zero] at h0
  rw [h0]
  refine rb_nil k (a + 1) fun i hi => ?_
  rw [show a + 1 + i = a + (i + 1) by omega]
  exact h (i + 1) (by omega)
theorem bitS_ne {c : Nat} (hc : c < 65536) (h : c ≠ 0) : bitS c 0 ≠ 0 := by
 unfold bitS
 split
 ·intro e
  have := odd_xor (x := 2 * c % 65536) (by omega)
  omega
 ·omega
theorem rb_ne {f : Nat → Nat} : ∀ (k a s : Nat), s < 65536 → s ≠ 0 → (∀ i, i < k → f (a + i) = 0) → rb f a k s ≠ 0
 | 0, _, _, _, h, _ => h
 | k + 1, a, s, hs, h, h0 => by
  show rb f (a + 1) k (bitS s (f a)) ≠ 0
  have h1 := h0 0 (by omega)
  rw [Nat.add_zero] at h1
  rw [h1]
  refine rb_ne k (a + 1) _ (bitS_lt _ _) (bitS_ne hs h) fun i hi => ?_
  rw [show a + 1 + i = a + (i + 1) by omega]
  exact h0 (i + 1) (by omega)
theorem burst_ne {e : Nat → Nat} {a N : Nat} (he : ∀ i, e i < 2) (hw : ∀ i, e i ≠ 0 → a ≤ i ∧ i < a + 16) (hx : ∃ i, i < N ∧ e i ≠ 0) : rb e 0 N 0 ≠ 0 := by
 obtain ⟨p, hp, hpe⟩ := hx
 have hpa := hw p hpe
 have z1 : rb e 0 a 0 = 0 := rb_nil a 0 fun i hi => by
  rcases Nat.eq_zero_or_pos (e (0 + i)) with h | h
  ·exact h
  ·have := hw (0 + i) (by omega)
   omega
 obtain ⟨j, hj⟩ : ∃ j, j = min 16 (N - a) := ⟨_, rfl⟩
 have e1 : N = a + (j + (N - a - j)) := by omega
 rw [e1, rb_app, z1, Nat.zero_add, rb_app]
 have hne : rb e a j 0 ≠ 0 := by
  intro h
  have := rb_zero_of he j a 0 (by omega) (by decide) h
  have hpw : 0 < 2 ^ (16 - j) := Nat.pow_pos (by decide)
  have hw0 : wd e a j = 0 := by
   rcases Nat.eq_zero_or_pos (wd e a j) with h0 | h0
   ·exact h0
   ·have := Nat.mul_pos h0 hpw
    omega
  have := wd_zero j a hw0 (p - a) (by omega)
  rw [show a + (p - a) = p by omega] at this
  exact hpe this
 refine rb_ne _ _ _ (rb_lt _ _ _ (by decide)) hne fun i hi => ?_
 rcases Nat.eq_zero_or_pos (e (a + j + i)) with h | h
 ·exact h
 ·have := hw (a + j + i) (by omega)
  omega
def bitP (xs : List Int) (p : Nat) : Nat := (nth xs (p / 8)).toNat / 2 ^ (7 - p % 8) % 2
theorem bitP_lt (xs : List Int) (p : Nat) : bitP xs p < 2 := Nat.mod_lt _ (by decide)
theorem bc_rb {xs : List Int} {i c : Nat} : ∀ j, j ≤ 8 → bc (nth xs i).toNat c j = rb (bitP xs) (8 * i) j c
 | 0, _ => rfl
 | j + 1, h => by
  rw [rb_app j (8 * i) 1 c, ← bc_rb j (by omega)]
  show bitS _ _ = bitS _ (bitP xs (8 * i + j))
  unfold bitP
  rw [show (8 * i + j) / 8 = i by omega, show (8 * i + j) % 8 = j by omega]
theorem crc_rb {xs : List Int} : ∀ i, crcF xs i = rb (bitP xs) 0 (8 * i) 65535
 | 0 => rfl
 | i + 1 => by
  rw [show 8 * (i + 1) = 8 * i + 8 by omega, rb_app, Nat.zero_add, ← crc_rb i, ← bc_rb 8 (Nat.le_refl _)]
  rfl
def fits (ys : List Int) (K : Nat) : Prop := crcF ys K = (nth ys K).toNat * 256 + (nth ys (K + 1)).toNat
theorem byte_wd {ys : List Int} {K : Nat} (h : (nth ys K).toNat < 256) : wd (bitP ys) (8 * K) 8 = (nth ys K).toNat := by
 have hb : ∀ j, j < 8 → bitP ys (8 * K + j) = (nth ys K).toNat / 2 ^ (7 - j) % 2 := fun j hj => by
  unfold bitP
  rw [show (8 * K + j) / 8 = K by omega, show (8 * K + j) % 8 = j by omega]
 have h0 := hb 0 (by omega)
 rw [Nat.add_zero] at h0
 simp only [wd, Nat.add_assoc, h0, hb _ (show 1 < 8 by decide), hb _ (show 1 + 1 < 8 by decide), hb _ (show 1 + (1 + 1) < 8 by decide), hb _ (show 1 + (1 + (1 + 1)) < 8 by decide), hb _ (show 1 + (1 + (1 + (1 + 1))) < 8 by decide), hb _ (show 1 + (1 + (1 + (1 + (1 + 1)))) < 8 by decide), hb _ (show 1 + (1 + (1 + (1 + (1 + (1 + 1))))) < 8 by decide)]
 generalize (nth ys K).toNat = x at *
 simp only [Nat.reduceAdd, Nat.reduceSub, Nat.reducePow, Nat.div_one]
 omega
theorem wd_app {f : Nat → Nat} : ∀ (k a l : Nat), wd f a (k + l) = wd f a k * 2 ^ l + wd f (a + k) l
 | 0, a, l => by rw [Nat.zero_add]; show _ = 0 * _ + wd f a l; rw [Nat.zero_mul, Nat.zero_add]
 | k + 1, a, l => by
  rw [show k + 1 + l = (k + l) + 1 by omega]
  show f a * 2 ^ (k + l) + wd f (a + 1) (k + l) = (f a * 2 ^ k + wd f (a + 1) k) * 2 ^ l + wd f (a + (k + 1)) l
  rw [wd_app k (a + 1) l, Nat.add_mul, Nat.mul_assoc, ← Nat.pow_add, show a + 1 + k = a + (k + 1) by omega, Nat.add_assoc]
theorem rb_self {f : Nat → Nat} (hf : ∀ i, f i < 2) : ∀ (k a s : Nat), k ≤ 16 → s = wd f a k * 2 ^ (16 - k) → s < 65536 → rb f a k s = 0
 | 0, a, s, _, h, _ => by
  rw [h]
  show 0 * _ = 0
  rw [Nat.zero_mul]
 | k + 1, a, s, hk, h, hs => by
  have hw : (f a * 2 ^ k) * 2 ^ (16 - (k + 1)) = f a * 32768 := by
   rw [Nat.mul_assoc, ← Nat.pow_add, show k + (16 - (k + 1)) = 15 by omega]
  have h : s = (f a * 2 ^ k + wd f (a + 1) k) * 2 ^ (16 - (k + 1)) := h
  rw [Nat.add_mul, hw] at h
  have hlt : wd f (a + 1) k < 2 ^ k := by
   have key : ∀ k a, wd f a k < 2 ^ k := by
    intro k
    induction k with
    | zero => intro a; exact Nat.zero_lt_one
    | succ k ih =>
     intro a
     have := ih (a + 1)
     have h2 := hf a
     show f a * 2 ^ k + wd f (a + 1) k < 2 ^ (k + 1)
     rw [Nat.pow_succ]
     have : f a * 2 ^ k ≤ 2 ^ k := by
      have := Nat.mul_le_mul_right (2 ^ k) (show f a ≤ 1 by omega)
      omega
     omega
   exact key k (a + 1)
  have hz : wd f (a + 1) k * 2 ^ (16 - (k + 1)) < 32768 := by
   have h1 := Nat.mul_lt_mul_of_pos_right hlt (Nat.pow_pos (n := 16 - (k + 1)) (show 0 < 2 by decide))
   rw [← Nat.pow_add, show k + (16 - (k + 1)) = 15 by omega] at h1
   exact h1
  have hp : (2 : Nat) ^ (16 - k) = 2 * 2 ^ (16 - (k + 1)) := by
   rw [show 16 - k = (16 - (k + 1)) + 1 by omega, Nat.pow_succ, Nat.mul_comm]
  have h2 := hf a
  have e : bitS s (f a) = wd f (a + 1) k * 2 ^ (16 - k) := by
   unfold bitS
   rw [hp, ← Nat.mul_assoc, Nat.mul_comm _ 2, Nat.mul_assoc]
   generalize wd f (a + 1) k * 2 ^ (16 - (k + 1)) = z at *
   rw [if_neg (by omega)]
   omega
  show rb f (a + 1) k (bitS s (f a)) = 0
  exact rb_self hf k (a + 1) _ (by omega) e (bitS_lt _ _)
theorem fits_iff {ys : List Int} {K : Nat} (h1 : (nth ys K).toNat < 256) (h2 : (nth ys (K + 1)).toNat < 256) : fits ys K ↔ rb (bitP ys) 0 (8 * K + 16) 65535 = 0 := by
 have hw : wd (bitP ys) (8 * K) 16 = (nth ys K).toNat * 256 + (nth ys (K + 1)).toNat := by
  rw [show (16 : Nat) = 8 + 8 from rfl, wd_app, byte_wd h1, show 8 * K + 8 = 8 * (K + 1) by omega, byte_wd h2]
 have hr : rb (bitP ys) 0 (8 * K + 16) 65535 = rb (bitP ys) (8 * K) 16 (crcF ys K) := by
  rw [rb_app, Nat.zero_add, ← crc_rb]
 rw [hr]
 constructor
 ·intro h
  refine rb_self (bitP_lt ys) 16 _ _ (Nat.le_refl _) ?_ (crc_lt K)
  rw [hw, Nat.sub_self, Nat.pow_zero, Nat.mul_one]
  exact h
 ·intro h
  have := rb_zero_of (bitP_lt ys) 16 (8 * K) _ (Nat.le_refl _) (crc_lt K) h
  rw [hw, Nat.sub_self, Nat.pow_zero, Nat.mul_one] at this
  exact this
theorem fits_burst {xs ys : List Int} {K a : Nat} {e : Nat → Nat} (he : ∀ i, e i < 2) (hw : ∀ i, e i ≠ 0 → a ≤ i ∧ i < a + 16) (hx : ∃ i, i < 8 * K + 16 ∧ e i ≠ 0) (hy : ∀ p, p < 8 * K + 16 → bitP ys p = bitP xs p ^^^ e p) (x1 : (nth xs K).toNat < 256) (x2 : (nth xs (K + 1)).toNat < 256) (y1 : (nth ys K).toNat < 256) (y2 : (nth ys (K + 1)).toNat < 256) (hf : fits xs K) : ¬ fits ys K := by
 rw [fits_iff y1 y2]
 rw [fits_iff x1 x2] at hf
 rw [rb_congr (g := fun i => bitP xs i ^^^ e i) _ 0 0 _ (fun i hi => by rw [Nat.zero_add]; exact hy i hi)]
 have := rb_lin (bitP_lt xs) he (8 * K + 16) 0 65535 0 (by decide) (by decide)
 rw [Nat.xor_zero] at this
 rw [this, hf, Nat.zero_xor]
 exact burst_ne he hw hx
end Go.Proofs.YtgjokhodccacoaaDoor
