/-
  TopWeighed, sixth walks: Sum and Compare.
-/
import Derived.Test.YthpnikalelookaaTwW5
import Derived.Shelf.Spec.BitsCarry
namespace Go.Proofs.Ythpnikalelookaa
open Go.RowKit

set_option maxHeartbeats 400000 in
theorem checkR_any (A : Option Addr) (n cap B : Nat) (l : List (Int × Int)) (w : World) (h : Sl eII 2 w B A n l) (hB : B ≤ w.heap.size) (hl : n ≤ 100) (hok : ∀ x ∈ l, okR x) :
    Calls Try.prog 18 #[.slice A n cap] w fun e w' => e = .returned (.int .i64 0) ∧ Below w.heap.size w w' := by
  have HB := Lib.hid (bad_none hok)
  go_enter Try.func18, Try.ntmps18
  go_wp2_with fail
  refine (valid_any A n cap B l w h hB (by omega)).mono ?_
  rintro e w1 ⟨rfl, hb1⟩
  rw [HB.out]
  go_wp2
  go_ret
  exact ⟨rfl, hb1⟩

def sum1 (l : List (Int × Int)) : Int := (l.map (·.1)).sum
def sum2 (l : List (Int × Int)) : Int := (l.map (·.2)).sum
theorem sum1_snoc (l : List (Int × Int)) (x : Int × Int) : sum1 (l ++ [x]) = sum1 l + x.1 := by simp [sum1]
theorem sum2_snoc (l : List (Int × Int)) (x : Int × Int) : sum2 (l ++ [x]) = sum2 l + x.2 := by simp [sum2]
/-- A range of what some pieces contain. -/
def smR (x : Int × Int) : Prop := 0 ≤ x.1 ∧ x.1 ≤ x.2 ∧ x.2 ≤ 100000000000
theorem sum_bd {l : List (Int × Int)} (h : ∀ x ∈ l, smR x) : 0 ≤ sum1 l ∧ sum1 l ≤ sum2 l ∧ sum2 l ≤ 100000000000 * (l.length : Int) := by
  induction l with
  | nil => simp [sum1, sum2]
  | cons x l ih =>
    obtain ⟨h1, h2, h3⟩ := ih (fun y hy => h y (List.mem_cons_of_mem _ hy))
    obtain ⟨g1, g2, g3⟩ := h x List.mem_cons_self
    simp only [sum1, sum2, List.map_cons, List.sum_cons, List.length_cons] at *
    omega
theorem mem_take_sm {l : List (Int × Int)} (h : ∀ x ∈ l, smR x) (k : Nat) : ∀ x ∈ l.take k, smR x := fun x hx => h x (List.mem_of_mem_take hx)

set_option maxHeartbeats 400000 in
theorem added_any (A : Option Addr) (n cap B : Nat) (l : List (Int × Int)) (w : World) (h : Sl eII 2 w B A n l) (hB : B ≤ w.heap.size) (hl : n ≤ 100) (hok : ∀ x ∈ l, smR x) :
    Calls Try.prog 20 #[.slice A n cap] w fun e w' => e = .returned (.tuple #[.int .i64 (sum1 l), .int .i64 (sum2 l)]) ∧ Below w.heap.size w w' := by
  have HO := Lib.hid hok
  clear hok
  go_enter Try.func20, Try.ntmps20
  go_wp2
  go_loopw [2, 3, 8] (fun s t i wr => ∃ k : Nat, k ≤ n ∧ i = .int .i64 k ∧ s = .int .i64 (sum1 (l.take k)) ∧ t = .int .i64 (sum2 (l.take k)) ∧ Below w.heap.size w wr) (fun _ _ i _ => n - (intOf i).toNat)
  case atStart => exact ⟨0, Nat.zero_le _, rfl, rfl, rfl, Below.refl _ _⟩
  case round =>
    obtain ⟨k, hk, rfl, rfl, rfl, hbl⟩ := hrel
    have hbd := sum_bd (mem_take_sm HO.out k)
    have htl : (l.take k).length ≤ k := List.length_take_le _ _
    by_cases hlt : k < n
    · obtain ⟨x, hx⟩ := h.get hlt
      obtain ⟨b, off, rfl, hb, c1, c2⟩ := (h.below (hbl.mono hB)).at2 hx
      obtain ⟨x1, x2⟩ := x
      have hx1 := HO.out _ (List.mem_of_getElem? hx)
      simp only [smR] at hx1
      have HS1 := Lib.hid (sum1_snoc (l.take k) (x1, x2))
      have HS2 := Lib.hid (sum2_snoc (l.take k) (x1, x2))
      have HX := Lib.hid hx
      clear hx
      generalize hs1 : sum1 (l.take k) = s1 at *
      generalize hs2 : sum2 (l.take k) = s2 at *
      clear hs1 hs2
      simp only at c1 c2
      go_wp2
      go_quiet (fail)
      go_wp2
      go_roundw
      case rel => exact ⟨k + 1, by omega, by go_num, by rw [take_snoc HX.out, HS1.out], by rw [take_snoc HX.out, HS2.out], below_drewN (hbl.alloc hbl.size _) _⟩
      case measure => simp [intOf]; omega
    · go_wp2
      go_ret2
      have ht : l.take k = l := List.take_of_length_le (by have := h.len; omega)
      exact ⟨by simp [ht], hbl⟩

set_option maxHeartbeats 400000 in
theorem sum_any (A : Option Addr) (n cap B : Nat) (l : List (Int × Int)) (w : World) (h : Sl eII 2 w B A n l) (hB : B ≤ w.heap.size) (hl : n ≤ 100) (hok : ∀ x ∈ l, smR x) :
    Calls Try.prog 8 #[.slice A n cap] w fun e w' => e = .returned (.tuple #[.agg #[.int .i64 (sum1 l), .int .i64 (sum2 l)], .int .i64 0]) ∧ Below w.heap.size w w' := by
  have hbd := sum_bd hok
  have hll := h.len
  have HO := Lib.hid hok
  clear hok
  go_enter Try.func8, Try.ntmps8
  go_wp2_with fail
  have hs0 := h.below ((Below.refl w.heap.size w).alloc (Nat.le_refl _) (.cells #[.int .i64 0, .int .i64 0] 24) |>.mono hB)
  refine (checkR_any A n cap B l _ hs0 (by simp <;> omega) hl (fun x hx => ?_)).mono ?_
  · have := HO.out x hx
    unfold smR at this
    exact ⟨⟨by omega, by omega⟩, ⟨by omega, by omega⟩, by omega⟩
  rintro e w1 ⟨rfl, hb1⟩
  have hz1 := hb1.size
  simp at hz1
  have hs1 := hs0.below (hb1.mono (by simp <;> omega))
  have K0 := Lib.hid ((Bk.newAt w #[.int .i64 0, .int .i64 0] 24 w.heap.size rfl).below hb1 (by simp <;> omega))
  have HBB := Lib.hid (((Below.refl w.heap.size w).alloc (Nat.le_refl _) _).trans (hb1.mono (by simp <;> omega)))
  clear hb1 hs0
  go_wp2_with fail
  refine (added_any A n cap B l _ hs1 (by omega) hl HO.out).mono ?_
  rintro e w2 ⟨rfl, hb2⟩
  have hz2 := hb2.size
  replace K0 := Lib.hid (K0.out.below hb2 (by omega))
  replace HBB := Lib.hid (HBB.out.trans (hb2.mono (by omega)))
  clear hb2 hs1
  generalize hsa : sum1 l = a at *
  generalize hsb : sum2 l = b at *
  have HSA := Lib.hid hsa
  have HSB := Lib.hid hsb
  clear hsa hsb
  go_wp2_with fail
  refine (fits_any a b ⟨by omega, by omega⟩ ⟨by omega, by omega⟩ _).mono ?_
  rintro e w3 ⟨rfl, hb3⟩
  have k0 := K0.out.below hb3 (by omega)
  replace HBB := Lib.hid (HBB.out.trans (hb3.mono (by omega)))
  clear hb3
  have c0 : w3.cell? ⟨w.heap.size, 0, none⟩ = some (.int .i64 0) := k0.cell rfl
  have c1 : w3.cell? ⟨w.heap.size, 1, none⟩ = some (.int .i64 0) := k0.cell rfl
  have f0 := k0.frozen 0
  have f1 := k0.frozen 1
  clear k0
  go_wp2
  refine bodyPost_ret (v := .tuple #[.agg #[.int .i64 a, .int .i64 b], .int .i64 0]) (by simp [results, Try.results8, go_sem, c0, c1]) rfl ⟨by rw [HSA.out, HSB.out], ?_⟩
  exact (HBB.out.setCell (by simp <;> omega) _).setCell (by simp <;> omega) _

/-- How two numbers compare. -/
def cmpI (x y : Int) : Int := if x < y then -1 else if x = y then 0 else 1

theorem sub64_nat (x y b : Nat) (hb : b ≤ 1) (w : World) : (callFunc 49 #[.int .u64 x, .int .u64 y, .int .u64 b]).run Try.prog w =
    .ok (.value (.tuple #[.int .u64 (((x + 18446744073709551616 - y - b) % 18446744073709551616 : Nat) : Int), .int .u64 ((if x < y + b then 1 else 0 : Nat) : Int)])) w := by
  rw [run_callFunc_extern Try.func49 (by kernel_rfl) (by kernel_rfl) (by kernel_rfl) (e := sub64Entry) (by kernel_rfl), run_sub64 x y b hb]
  rfl
theorem sub64_lt (x y : Int) (hx : 0 ≤ x) (hy : x < y) : ∃ d : Int, ∀ w, (callFunc 49 #[.int .u64 x, .int .u64 y, .int .u64 0]).run Try.prog w = .ok (.value (.tuple #[.int .u64 d, .int .u64 1])) w := by
  obtain ⟨x, rfl⟩ := Int.eq_ofNat_of_zero_le hx
  obtain ⟨y, rfl⟩ := Int.eq_ofNat_of_zero_le (by omega : 0 ≤ y)
  refine ⟨(((x + 18446744073709551616 - y - 0) % 18446744073709551616 : Nat) : Int), fun w => ?_⟩
  have h := sub64_nat x y 0 (by omega) w
  rw [if_pos (by omega)] at h
  exact h
theorem sub64_ge (x y : Int) (hy : 0 ≤ y) (hx : y ≤ x) : ∃ d : Int, ∀ w, (callFunc 49 #[.int .u64 x, .int .u64 y, .int .u64 0]).run Try.prog w = .ok (.value (.tuple #[.int .u64 d, .int .u64 0])) w := by
  obtain ⟨x, rfl⟩ := Int.eq_ofNat_of_zero_le (by omega : 0 ≤ x)
  obtain ⟨y, rfl⟩ := Int.eq_ofNat_of_zero_le hy
  refine ⟨(((x + 18446744073709551616 - y - 0) % 18446744073709551616 : Nat) : Int), fun w => ?_⟩
  have h := sub64_nat x y 0 (by omega) w
  rw [if_neg (by omega)] at h
  exact h
theorem sub64_one : ∃ d : Int, ∀ w, (callFunc 49 #[.int .u64 0, .int .u64 0, .int .u64 1]).run Try.prog w = .ok (.value (.tuple #[.int .u64 d, .int .u64 1])) w :=
  ⟨_, fun w => sub64_nat 0 0 1 (by omega) w⟩
theorem sub64_zero : ∃ d : Int, ∀ w, (callFunc 49 #[.int .u64 0, .int .u64 0, .int .u64 0]).run Try.prog w = .ok (.value (.tuple #[.int .u64 d, .int .u64 0])) w :=
  ⟨_, fun w => sub64_nat 0 0 0 (by omega) w⟩

set_option maxHeartbeats 1000000 in
theorem wcmp_any (x y : Int) (hx : 0 ≤ x) (hy : 0 ≤ y) (w : World) :
    Calls Try.prog 38 #[.agg #[.int .u64 0, .int .u64 x, .bool false], .agg #[.int .u64 0, .int .u64 y, .bool false]] w fun e w' => e = .returned (.int .i64 (cmpI x y)) ∧ Below w.heap.size w w' := by
  rcases Int.lt_trichotomy x y with hlt | rfl | hgt
  · have HR := Lib.hid (show cmpI x y = -1 by simp [cmpI, hlt])
    obtain ⟨d, hd⟩ := sub64_lt x y hx hlt
    obtain ⟨d2, hd2⟩ := sub64_one
    have hne : ¬ x = y := by omega
    go_enter Try.func38, Try.ntmps38
    go_wp2_with (first | simp only [hd] | simp only [hd2])
    go_ret
    exact ⟨ret_int HR.out.symm, ((Below.refl _ _).alloc (Nat.le_refl _) _).alloc (by simp) _⟩
  · have HR := Lib.hid (show cmpI x x = 0 by simp [cmpI])
    obtain ⟨d, hd⟩ := sub64_ge x x hx (Int.le_refl _)
    obtain ⟨d2, hd2⟩ := sub64_zero
    go_enter Try.func38, Try.ntmps38
    go_wp2_with (first | simp only [hd] | simp only [hd2])
    go_ret
    exact ⟨ret_int HR.out.symm, ((Below.refl _ _).alloc (Nat.le_refl _) _).alloc (by simp) _⟩
  · have HR := Lib.hid (show cmpI x y = 1 by unfold cmpI; rw [if_neg (by omega), if_neg (by omega)])
    obtain ⟨d, hd⟩ := sub64_ge x y hy (by omega)
    obtain ⟨d2, hd2⟩ := sub64_zero
    have hne : ¬ x = y := by omega
    go_enter Try.func38, Try.ntmps38
    go_wp2_with (first | simp only [hd] | simp only [hd2])
    go_ret
    exact ⟨ret_int HR.out.symm, ((Below.refl _ _).alloc (Nat.le_refl _) _).alloc (by simp) _⟩

def prodI (x y : Int) : Int := x * y
theorem keep4 {w W W' : World} {a b c d : Value} (hb : Below W.heap.size W W') (h : W.cell? ⟨w.heap.size, 0, none⟩ = some a ∧ W.cell? ⟨w.heap.size, 1, none⟩ = some b ∧ W.cell? ⟨w.heap.size + 1, 0, none⟩ = some c ∧ W.cell? ⟨w.heap.size + 1, 1, none⟩ = some d ∧ w.heap.size + 1 < W.heap.size ∧ Below w.heap.size w W) :
    W'.cell? ⟨w.heap.size, 0, none⟩ = some a ∧ W'.cell? ⟨w.heap.size, 1, none⟩ = some b ∧ W'.cell? ⟨w.heap.size + 1, 0, none⟩ = some c ∧ W'.cell? ⟨w.heap.size + 1, 1, none⟩ = some d ∧ w.heap.size + 1 < W'.heap.size ∧ Below w.heap.size w W' := by
  obtain ⟨h1, h2, h3, h4, h5, h6⟩ := h
  exact ⟨(hb.cell (by simp; omega)).trans h1, (hb.cell (by simp; omega)).trans h2, (hb.cell h5).trans h3, (hb.cell h5).trans h4, Nat.lt_of_lt_of_le h5 hb.size, h6.trans (hb.mono (by omega))⟩

theorem keep0 (w : World) (a b c d : Value) (t : TypeId) : (((w.alloc (.cells #[a, b] t)).alloc (.cells #[c, d] t)).drew).cell? ⟨w.heap.size, 0, none⟩ = some a ∧ (((w.alloc (.cells #[a, b] t)).alloc (.cells #[c, d] t)).drew).cell? ⟨w.heap.size, 1, none⟩ = some b ∧
    (((w.alloc (.cells #[a, b] t)).alloc (.cells #[c, d] t)).drew).cell? ⟨w.heap.size + 1, 0, none⟩ = some c ∧ (((w.alloc (.cells #[a, b] t)).alloc (.cells #[c, d] t)).drew).cell? ⟨w.heap.size + 1, 1, none⟩ = some d ∧
    w.heap.size + 1 < (((w.alloc (.cells #[a, b] t)).alloc (.cells #[c, d] t)).drew).heap.size ∧ Below w.heap.size w (((w.alloc (.cells #[a, b] t)).alloc (.cells #[c, d] t)).drew) := by
  have k0 := ((Bk.newAt w #[a, b] t w.heap.size rfl).alloc (.cells #[c, d] t)).drew
  have k1 := (Bk.newAt (w.alloc (.cells #[a, b] t)) #[c, d] t (w.heap.size + 1) (by simp)).drew
  exact ⟨k0.cell rfl, k0.cell rfl, k1.cell rfl, k1.cell rfl, k1.lt, (((Below.refl w.heap.size w).alloc (Nat.le_refl _) _).alloc (by simp) _).drew⟩

theorem keepN (w : World) (a b c d : Value) (t : TypeId) : (((w.alloc (.cells #[a, b] t)).alloc (.cells #[c, d] t))).cell? ⟨w.heap.size, 0, none⟩ = some a ∧ (((w.alloc (.cells #[a, b] t)).alloc (.cells #[c, d] t))).cell? ⟨w.heap.size, 1, none⟩ = some b ∧
    (((w.alloc (.cells #[a, b] t)).alloc (.cells #[c, d] t))).cell? ⟨w.heap.size + 1, 0, none⟩ = some c ∧ (((w.alloc (.cells #[a, b] t)).alloc (.cells #[c, d] t))).cell? ⟨w.heap.size + 1, 1, none⟩ = some d ∧
    w.heap.size + 1 < (((w.alloc (.cells #[a, b] t)).alloc (.cells #[c, d] t))).heap.size ∧ Below w.heap.size w (((w.alloc (.cells #[a, b] t)).alloc (.cells #[c, d] t))) := by
  have k0 := ((Bk.newAt w #[a, b] t w.heap.size rfl).alloc (.cells #[c, d] t))
  have k1 := (Bk.newAt (w.alloc (.cells #[a, b] t)) #[c, d] t (w.heap.size + 1) (by simp))
  exact ⟨k0.cell rfl, k0.cell rfl, k1.cell rfl, k1.cell rfl, k1.lt, (((Below.refl w.heap.size w).alloc (Nat.le_refl _) _).alloc (by simp) _)⟩

set_option maxHeartbeats 1000000 in
theorem fcmp_any (a b c d : Int) (ha : 0 ≤ a) (ha1 : a ≤ 1000000000000000) (hb : 0 ≤ b) (hb1 : b ≤ 1000000000000000) (hc : 0 ≤ c) (hc1 : c ≤ 1000000000000000) (hd : 0 ≤ d) (hd1 : d ≤ 1000000000000000)
    (h1 : a * d < 9223372036854775808) (h2 : c * b < 9223372036854775808) (w : World) :
    Calls Try.prog 21 #[.agg #[.int .i64 a, .int .i64 b], .agg #[.int .i64 c, .int .i64 d]] w fun e w' => e = .returned (.int .i64 (cmpI (a * d) (c * b))) ∧ Below w.heap.size w w' := by
  have PP := Lib.hid (show ∀ x y : Int, (x = a ∧ y = d ∨ x = c ∧ y = b) → ∀ w : World, Calls Try.prog 36 #[.int .i64 x, .int .i64 y] w fun e w' => e = .returned (.agg #[.int .u64 0, .int .u64 (prodI x y), .bool false]) ∧ Below w.heap.size w w' from by
    intro x y hxy w
    unfold prodI
    rcases hxy with ⟨rfl, rfl⟩ | ⟨rfl, rfl⟩
    · exact product_any _ _ ha hd ha1 hd1 h1 w
    · exact product_any _ _ hc hb hc1 hb1 h2 w)
  have P3 := Lib.hid (wcmp_any (prodI a d) (prodI c b) (Int.mul_nonneg ha hd) (Int.mul_nonneg hc hb))
  go_enter Try.func21, Try.ntmps21
  go_wp2
  go_region_held3 (fun w' => w'.cell? ⟨w.heap.size, 0, none⟩ = some (.int .i64 a) ∧ w'.cell? ⟨w.heap.size, 1, none⟩ = some (.int .i64 b) ∧ w'.cell? ⟨w.heap.size + 1, 0, none⟩ = some (.int .i64 c) ∧ w'.cell? ⟨w.heap.size + 1, 1, none⟩ = some (.int .i64 d) ∧ w.heap.size + 1 < w'.heap.size ∧ Below w.heap.size w w') (first | exact kp | exact keep0 w _ _ _ _ _) (first | (go_at_call 36; refine (PP.out _ _ (by simp) _).mono ?_; rintro e w1 ⟨rfl, hb1⟩; first | (have kp := keep4 (w := w) hb1 kp) | (have kp := keep4 (w := w) hb1 (keep0 w _ _ _ _ _))) | (go_at_call 38; refine (P3.out _).mono ?_; rintro e w3 ⟨rfl, hb3⟩; have kp := keep4 (w := w) hb3 kp))
  all_goals
    obtain ⟨-, -, -, -, -, hbb⟩ := kp
    clear hb1 hb3
    go_wp2
    go_ret
    exact ⟨rfl, hbb⟩

set_option maxHeartbeats 1000000 in
theorem compare_any (a b c d : Int) (ha : 0 ≤ a) (ha1 : a ≤ 1000000000000000) (hb : 1 ≤ b) (hb1 : b ≤ 1000000000000000) (hc : 0 ≤ c) (hc1 : c ≤ 1000000000000000) (hd : 1 ≤ d) (hd1 : d ≤ 1000000000000000)
    (h1 : a * d < 9223372036854775808) (h2 : c * b < 9223372036854775808) (w : World) :
    Calls Try.prog 9 #[.agg #[.int .i64 a, .int .i64 b], .agg #[.int .i64 c, .int .i64 d]] w fun e w' => e = .returned (.tuple #[.int .i64 (cmpI (a * d) (c * b)), .int .i64 0]) ∧ Below w.heap.size w w' := by
  have HC := Lib.hid (fcmp_any a b c d ha ha1 (by omega) hb1 hc hc1 (by omega) hd1 h1 h2)
  clear h1 h2
  go_enter Try.func9, Try.ntmps9
  go_wp2_with fail
  refine (ok_any a b ⟨by omega, by omega⟩ hb hb1 _).mono ?_
  rintro e w1 ⟨rfl, hx1⟩
  have kp := keep4 (w := w) hx1 (keepN w (.int .i64 a) (.int .i64 b) (.int .i64 c) (.int .i64 d) 43)
  clear hx1
  have KP := Lib.hid kp
  obtain ⟨c0, c1, c2, c3, c4, -⟩ := kp
  go_wp2_with fail
  refine (ok_any c d ⟨by omega, by omega⟩ hd hd1 _).mono ?_
  rintro e w2 ⟨rfl, hb2⟩
  have kp := keep4 (w := w) hb2 KP.out
  clear hb2 KP c0 c1 c2 c3 c4
  have KP := Lib.hid kp
  obtain ⟨c0, c1, c2, c3, c4, -⟩ := kp
  go_wp2_with fail
  refine (HC.out _).mono ?_
  rintro e w3 ⟨rfl, hb3⟩
  have kp := keep4 (w := w) hb3 KP.out
  obtain ⟨-, -, -, -, -, hbb⟩ := kp
  clear hb3 KP c0 c1 c2 c3 c4
  go_wp2
  go_ret2
  exact ⟨rfl, hbb⟩
end Go.Proofs.Ythpnikalelookaa
