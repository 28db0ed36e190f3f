/-
  TopWeighed, seventh walks: what is valid in chapter 2.
-/
import Derived.Test.YthpnikalelookaaTwW6
namespace Go.Proofs.Ythpnikalelookaa
open Go.RowKit

set_option maxHeartbeats 400000 in
theorem within_any (n a b : Int) (w : World) :
    Calls Try.prog 31 #[.int .i64 n, .int .i64 a, .int .i64 b] w fun e w' => e = .returned (.bool (inB n a b)) ∧ w = w' := by
  by_cases h : a ≤ n
  · by_cases h2 : n ≤ b
    all_goals
      go_enter Try.func31, Try.ntmps31
      go_wp2
      go_ret
      exact ⟨ret_bool (by simp [inB, h, h2]), rfl⟩
  · have hd : decide (a ≤ n) = false := by simpa using h
    go_enter Try.func31, Try.ntmps31
    go_wp2
    go_ret
    exact ⟨ret_bool (by rw [inB, hd]; rfl), rfl⟩

set_option maxHeartbeats 400000 in
theorem isRange_any (l h m : Int) (w : World) :
    Calls Try.prog 29 #[.agg #[.int .i64 l, .int .i64 h], .int .i64 m] w fun e w' => e = .returned (.bool (rngB l h m)) ∧ Below w.heap.size w w' := by
  by_cases h1 : 0 ≤ l
  · by_cases h2 : l ≤ h
    · by_cases h3 : h ≤ m
      all_goals
        go_enter Try.func29, Try.ntmps29
        go_wp2
        go_ret
        exact ⟨ret_bool (by simp [rngB, h1, h2, h3]), (Below.refl _ _).alloc (Nat.le_refl _) _⟩
    · have hd : decide (l ≤ h) = false := by simpa using h2
      go_enter Try.func29, Try.ntmps29
      go_wp2
      go_ret
      exact ⟨ret_bool (by simp [rngB, hd]), (Below.refl _ _).alloc (Nat.le_refl _) _⟩
  · have hd : decide (0 ≤ l) = false := by simpa using h1
    go_enter Try.func29, Try.ntmps29
    go_wp2
    go_ret
    exact ⟨ret_bool (by simp [rngB, hd]), (Below.refl _ _).alloc (Nat.le_refl _) _⟩

set_option maxHeartbeats 400000 in
theorem boundsOne_any : Pred vR 42 (fun r => !rngB r.1 r.2 100000000) := by
  refine ⟨by unfold Enters; kernel_rfl, fun r w => ?_⟩
  obtain ⟨l, h⟩ := r
  unfold vR
  simp only
  go_enter Try.func42, Try.ntmps42
  go_wp2_with fail
  refine (isRange_any l h 100000000 _).mono ?_
  rintro e w1 ⟨rfl, hb1⟩
  have hbb : Below w.heap.size w w1 := ((Below.refl w.heap.size w).alloc (Nat.le_refl _) _).trans (hb1.mono (by simp))
  clear hb1
  go_wp2
  go_ret
  exact ⟨rfl, hbb⟩

theorem any3 (l0 h0 l1 h1 l2 h2 : Int) : (!([(l0, h0), (l1, h1), (l2, h2)].any fun r => !rngB r.1 r.2 100000000)) = bndB l0 h0 l1 h1 l2 h2 := by
  simp [bndB, Bool.and_assoc]

set_option maxHeartbeats 400000 in
theorem areBounds_any (l0 h0 l1 h1 l2 h2 : Int) (w : World) :
    Calls Try.prog 30 #[.agg #[.int .i64 l0, .int .i64 h0, .int .i64 l1, .int .i64 h1, .int .i64 l2, .int .i64 h2]] w fun e w' => e = .returned (.bool (bndB l0 h0 l1 h1 l2 h2)) ∧ Below w.heap.size w w' := by
  have HA := Lib.hid (any3 l0 h0 l1 h1 l2 h2)
  go_enter Try.func30, Try.ntmps30
  go_wp2_with fail
  have hs := Sl.new enc2 w 26 w.heap.size rfl [(l0, h0), (l1, h1), (l2, h2)] #[.int .i64 l0, .int .i64 h0, .int .i64 l1, .int .i64 h1, .int .i64 l2, .int .i64 h2] (by simp [maxLen]) rfl
  refine (containsR_any boundsOne_any (some ⟨w.heap.size, 0, none⟩) 3 3 (w.heap.size + 1) [(l0, h0), (l1, h1), (l2, h2)] _ hs (by simp) (by omega)).mono ?_
  rintro e w1 ⟨rfl, hb1⟩
  have hbb : Below w.heap.size w w1 := ((Below.refl w.heap.size w).alloc (Nat.le_refl _) _).trans (hb1.mono (by simp))
  generalize [(l0, h0), (l1, h1), (l2, h2)].any (fun r => !rngB r.1 r.2 100000000) = q at *
  clear hb1 hs
  go_wp2
  go_ret
  exact ⟨ret_bool HA.out, hbb⟩

set_option maxHeartbeats 1000000 in
theorem isLot_any (x : LotP) (w : World) :
    Calls Try.prog 28 #[vL x] w fun e w' => e = .returned (.bool (lotB x)) ∧ Below w.heap.size w w' := by
  obtain ⟨cnt, mass, l0, h0, l1, h1, l2, h2, cost⟩ := x
  unfold vL
  simp only
  have HL := Lib.hid (show lotB ⟨cnt, mass, l0, h0, l1, h1, l2, h2, cost⟩ = (inB cnt 0 1000 && inB mass 1 1000000 && bndB l0 h0 l1 h1 l2 h2 && inB cost 0 1000000) from rfl)
  cases b1 : inB cnt 0 1000
  · have B1 := Lib.hid b1
    go_enter Try.func28, Try.ntmps28
    go_wp2_with (go_at_call 31; refine (within_any _ _ _ _).mono ?_; rintro e w' ⟨rfl, rfl⟩)
    go_ret
    exact ⟨ret_bool (by rw [HL.out, B1.out]; rfl), (Below.refl _ _).alloc (Nat.le_refl _) _⟩
  · cases b2 : inB mass 1 1000000
    · have B1 := Lib.hid b1
      have B2 := Lib.hid b2
      go_enter Try.func28, Try.ntmps28
      go_wp2_with (go_at_call 31; refine (within_any _ _ _ _).mono ?_; rintro e w' ⟨rfl, rfl⟩)
      go_ret
      exact ⟨ret_bool (by rw [HL.out, B1.out, B2.out]; rfl), (Below.refl _ _).alloc (Nat.le_refl _) _⟩
    · cases b3 : bndB l0 h0 l1 h1 l2 h2
      all_goals
        have B1 := Lib.hid b1
        have B2 := Lib.hid b2
        have B3 := Lib.hid b3
        clear b3
        go_enter Try.func28, Try.ntmps28
        go_wp2_with (go_at_call 31; refine (within_any _ _ _ _).mono ?_; rintro e w' ⟨rfl, rfl⟩)
        refine (areBounds_any l0 h0 l1 h1 l2 h2 _).mono ?_
        rintro e w1 ⟨rfl, hb1⟩
        rw [B3.out]
        have k0 := (Bk.newAt w #[.int .i64 cnt, .int .i64 mass, .int .i64 l0, .int .i64 h0, .int .i64 l1, .int .i64 h1, .int .i64 l2, .int .i64 h2, .int .i64 cost] 38 w.heap.size rfl).below hb1 (by simp)
        have c8 : w1.cell? ⟨w.heap.size, 8, none⟩ = some (.int .i64 cost) := k0.cell rfl
        have hbb : Below w.heap.size w w1 := ((Below.refl w.heap.size w).alloc (Nat.le_refl _) _).trans (hb1.mono (by simp))
        clear hb1 k0
        go_wp2_with (go_at_call 31; refine (within_any _ _ _ _).mono ?_; rintro e w' ⟨rfl, rfl⟩)
        go_ret
        exact ⟨ret_bool (by rw [HL.out, B1.out, B2.out, B3.out]; simp), hbb⟩

set_option maxHeartbeats 400000 in
theorem checkOne_any : Pred vL 27 (fun x => !lotB x) := by
  refine ⟨by unfold Enters; kernel_rfl, fun x w => ?_⟩
  have HI := Lib.hid (isLot_any x)
  generalize hr : lotB x = r at *
  have HR := Lib.hid hr
  clear hr
  obtain ⟨cnt, mass, l0, h0, l1, h1, l2, h2, cost⟩ := x
  unfold vL at *
  simp only at *
  go_enter Try.func27, Try.ntmps27
  go_wp2_with fail
  refine (HI.out _).mono ?_
  rintro e w1 ⟨rfl, hb1⟩
  have hbb : Below w.heap.size w w1 := ((Below.refl w.heap.size w).alloc (Nat.le_refl _) _).trans (hb1.mono (by simp))
  clear hb1
  go_wp2
  go_ret
  exact ⟨ret_bool (by rw [HR.out]), hbb⟩
end Go.Proofs.Ythpnikalelookaa
