/-
  Walks of chapter 7, grinding: isSlab, isDiameter, the reference's Slab, Grind.
-/
import Derived.Test.YtlkfcbdbieenhaaCropW1
namespace Go.Proofs.Ytlkfcbdbieenhaa
open Go.RowKit

abbrev S3 := Int × Int × Int
def okS (x : S3) : Bool := inB x.1 1 3000 && decide (0 ≤ x.2.1) && decide (x.2.1 ≤ x.2.2) && decide (x.2.2 ≤ 500000)
theorem okS_t {a b c : Int} (h : okS (a, b, c) = true) : (1 ≤ a ∧ a ≤ 3000) ∧ 0 ≤ b ∧ b ≤ c ∧ c ≤ 500000 := by
  simp only [okS, Bool.and_eq_true, decide_eq_true_eq, inB_iff] at h
  exact ⟨h.1.1.1, h.1.1.2, h.1.2, h.2⟩

set_option maxHeartbeats 400000 in
theorem isSlab_any (a b c : Int) (w : World) :
    Calls Try.prog 53 #[.agg #[.int .i64 a, .int .i64 b, .int .i64 c]] w fun e w' => e = .returned (.bool (okS (a, b, c))) ∧ Below w.heap.size w w' := by
  have hB : Below w.heap.size w ((w.alloc (.cells #[.int .i64 a, .int .i64 b, .int .i64 c] 40)).alloc (.cells #[.int .i64 b, .int .i64 c] 38)) := ((Below.refl _ _).alloc (Nat.le_refl _) _).alloc (by simp) _
  have HB := Lib.hid hB
  clear hB
  cases h1 : inB a 1 3000
  · have H1 := Lib.hid h1
    go_enter Try.func53, Try.ntmps53
    go_wp2_with (go_at_call 57; refine (within_any _ _ _ _).mono ?_; rintro e w' ⟨rfl, rfl⟩)
    go_ret
    exact ⟨ret_bool (by simp [okS, H1.out]), HB.out⟩
  · have H1 := Lib.hid h1
    by_cases h2 : 0 ≤ b
    · by_cases h3 : b ≤ c
      · by_cases h4 : c ≤ 500000
        · go_enter Try.func53, Try.ntmps53
          go_wp2_with (go_at_call 57; refine (within_any _ _ _ _).mono ?_; rintro e w' ⟨rfl, rfl⟩)
          go_ret
          exact ⟨ret_bool (by simp [okS, H1.out, h2, h3, h4]), HB.out⟩
        · have hd : decide (c ≤ 500000) = false := by simpa using h4
          go_enter Try.func53, Try.ntmps53
          go_wp2_with (go_at_call 57; refine (within_any _ _ _ _).mono ?_; rintro e w' ⟨rfl, rfl⟩)
          go_ret
          exact ⟨ret_bool (by simp [okS, H1.out, h2, h3, h4]), HB.out⟩
      · have hd : decide (b ≤ c) = false := by simpa using h3
        go_enter Try.func53, Try.ntmps53
        go_wp2_with (go_at_call 57; refine (within_any _ _ _ _).mono ?_; rintro e w' ⟨rfl, rfl⟩)
        go_ret
        exact ⟨ret_bool (by simp [okS, H1.out, h2, hd]), HB.out⟩
    · have hd : decide (0 ≤ b) = false := by simpa using h2
      go_enter Try.func53, Try.ntmps53
      go_wp2_with (go_at_call 57; refine (within_any _ _ _ _).mono ?_; rintro e w' ⟨rfl, rfl⟩)
      go_ret
      exact ⟨ret_bool (by simp [okS, H1.out, hd]), HB.out⟩

set_option maxHeartbeats 400000 in
theorem refSlab_any (a b c : Int) (w : World) :
    Calls Try.prog 31 #[.agg #[.int .i64 a, .int .i64 b, .int .i64 c]] w fun e w' => e = .returned (.bool (okS (a, b, c))) ∧ Below w.heap.size w w' := by
  have hB : Below w.heap.size w (w.alloc (.cells #[.int .i64 a, .int .i64 b, .int .i64 c] 40)) := (Below.refl _ _).alloc (Nat.le_refl _) _
  have HB := Lib.hid hB
  clear hB
  cases h1 : inB a 1 3000
  · have H1 := Lib.hid h1
    go_enter Try.func31, Try.ntmps31
    go_wp2_with (go_at_call 47; refine (ref_in _ _ _ _).mono ?_; rintro e w' ⟨rfl, rfl⟩)
    go_ret
    exact ⟨ret_bool (by simp [okS, H1.out]), HB.out⟩
  · have H1 := Lib.hid h1
    by_cases h2 : 0 ≤ b
    · by_cases h3 : b ≤ c
      · by_cases h4 : c ≤ 500000
        · go_enter Try.func31, Try.ntmps31
          go_wp2_with (go_at_call 47; refine (ref_in _ _ _ _).mono ?_; rintro e w' ⟨rfl, rfl⟩)
          go_ret
          exact ⟨ret_bool (by simp [okS, H1.out, h2, h3, h4]), HB.out⟩
        · have hd : decide (c ≤ 500000) = false := by simpa using h4
          go_enter Try.func31, Try.ntmps31
          go_wp2_with (go_at_call 47; refine (ref_in _ _ _ _).mono ?_; rintro e w' ⟨rfl, rfl⟩)
          go_ret
          exact ⟨ret_bool (by simp [okS, H1.out, h2, h3, h4]), HB.out⟩
      · have hd : decide (b ≤ c) = false := by simpa using h3
        go_enter Try.func31, Try.ntmps31
        go_wp2_with (go_at_call 47; refine (ref_in _ _ _ _).mono ?_; rintro e w' ⟨rfl, rfl⟩)
        go_ret
        exact ⟨ret_bool (by simp [okS, H1.out, h2, hd]), HB.out⟩
    · have hd : decide (0 ≤ b) = false := by simpa using h2
      go_enter Try.func31, Try.ntmps31
      go_wp2_with (go_at_call 47; refine (ref_in _ _ _ _).mono ?_; rintro e w' ⟨rfl, rfl⟩)
      go_ret
      exact ⟨ret_bool (by simp [okS, H1.out, hd]), HB.out⟩

set_option maxHeartbeats 400000 in
theorem isDiameter_any (d : Int) (w : World) :
    Calls Try.prog 54 #[.int .i64 d] w fun e w' => e = .returned (.bool (inB d 1 500000)) ∧ w = w' := by
  go_enter Try.func54, Try.ntmps54
  go_wp2_with (go_at_call 57; refine (within_any _ _ _ _).mono ?_; rintro e w' ⟨rfl, rfl⟩)
  go_ret
  exact ⟨rfl, rfl⟩

set_option maxHeartbeats 400000 in
theorem bad1_any (a b c : Int) (w : World) :
    Calls Try.prog 62 #[.agg #[.int .i64 a, .int .i64 b, .int .i64 c]] w fun e w' => e = .returned (.bool (!okS (a, b, c))) ∧ Below w.heap.size w w' := by
  have HB := Lib.hid (show Below w.heap.size w (w.alloc (.cells #[.int .i64 a, .int .i64 b, .int .i64 c] 40)) from (Below.refl _ _).alloc (Nat.le_refl _) _)
  have HW : (w.alloc (.cells #[.int .i64 a, .int .i64 b, .int .i64 c] 40)).heap.size = w.heap.size + 1 := by simp
  go_enter Try.func62, Try.ntmps62
  go_wp2_with (go_at_call 53; refine (isSlab_any _ _ _ _).mono ?_; rintro e w' ⟨rfl, hb⟩)
  go_ret
  exact ⟨rfl, HB.out.trans (hb.mono (by omega))⟩

set_option maxHeartbeats 400000 in
theorem indexSl_any (A : Option Addr) (n cap B : Nat) (l : List S3) (w : World) (h : Sl eIII 3 w B A n l) (hB : B ≤ w.heap.size) (hl : n ≤ 1000000) :
    Calls Try.prog 81 #[.slice A n cap, .func (.func 62) #[] #[]] w fun e w' => (∃ r : Int, e = .returned (.int .i64 r) ∧ (0 ≤ r ↔ l.all okS = false)) ∧ Below w.heap.size w w' := by
  go_enter Try.func81, Try.ntmps81
  go_wp2
  go_loopw [8] (fun i wr => ∃ k : Nat, k ≤ n ∧ i = .int .i64 k ∧ (l.take k).all okS = true ∧ Below w.heap.size w wr) (fun i _ => n - (intOf i).toNat)
  case atStart => exact ⟨0, Nat.zero_le _, rfl, rfl, Below.refl _ _⟩
  case round =>
    obtain ⟨k, hk, rfl, hany, hbl⟩ := hrel
    have HA := Lib.hid hany
    clear hany
    by_cases hlt : k < n
    · obtain ⟨x, hx⟩ := h.get hlt
      obtain ⟨b, off, rfl, hb, c1, c2, c3⟩ := (h.below (hbl.mono hB)).at3 hx
      obtain ⟨x1, x2, x3⟩ := x
      have HX := Lib.hid hx
      clear hx
      cases hbad : okS (x1, x2, x3)
      · have HB := Lib.hid hbad
        go_wp2_with (go_at_call 62; refine (bad1_any _ _ _ _).mono ?_; rintro e w' ⟨rfl, hb1⟩)
        go_ret
        refine ⟨⟨k, rfl, ?_⟩, hbl.trans (hb1.mono hbl.size)⟩
        simp only [Int.natCast_nonneg, true_iff]
        exact List.all_eq_false.2 ⟨_, List.mem_of_getElem? HX.out, by rw [HB.out]; simp⟩
      · have HB := Lib.hid hbad
        go_wp2_with (go_at_call 62; refine (bad1_any _ _ _ _).mono ?_; rintro e w' ⟨rfl, hb1⟩)
        go_roundw
        case rel => exact ⟨k + 1, by omega, by go_num, by rw [take_snoc HX.out, List.all_append, HA.out]; simp [HB.out], hbl.trans (hb1.mono hbl.size)⟩
        case measure => simp [intOf]; omega
    · go_wp2
      go_ret
      refine ⟨⟨-1, rfl, ?_⟩, hbl⟩
      have : l.take k = l := List.take_of_length_le (by have := h.len; omega)
      rw [← this, HA.out]
      simp

set_option maxHeartbeats 400000 in
theorem containsSl_any (A : Option Addr) (n cap B : Nat) (l : List S3) (w : World) (h : Sl eIII 3 w B A n l) (hB : B ≤ w.heap.size) (hl : n ≤ 1000000) :
    Calls Try.prog 63 #[.slice A n cap, .func (.func 62) #[] #[]] w fun e w' => e = .returned (.bool (!l.all okS)) ∧ Below w.heap.size w w' := by
  go_enter Try.func63, Try.ntmps63
  go_wp2_with fail
  refine (indexSl_any A n cap B l w h hB hl).mono ?_
  rintro e w' ⟨⟨r, rfl, hn⟩, hb1⟩
  have HN := Lib.hid hn
  clear hn
  by_cases h0 : 0 ≤ r
  all_goals
    go_wp2
    go_ret
    refine ⟨ret_bool ?_, hb1⟩
    have := HN.out
    cases hc : l.all okS <;> simp_all
end Go.Proofs.Ytlkfcbdbieenhaa
