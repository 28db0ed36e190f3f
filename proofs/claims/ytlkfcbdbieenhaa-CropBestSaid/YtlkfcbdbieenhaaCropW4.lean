/-
  Walks of chapter 7, fourth part: slices.Repeat of one int, newBoule.
-/
import Derived.Test.YtlkfcbdbieenhaaCropW3
import Derived.Laws.Bits64b
import Derived.Laws.CopyOwn
import Derived.IntWalk
import Derived.Deep.RegionHeld3
import Derived.Maps.RangeWalk
import Derived.Deep.RegionLaw
namespace Go.Proofs.Ytlkfcbdbieenhaa
open Go.RowKit

theorem mask32 (c : Nat) (hc : c ≤ 100000) : bits .and .u64 (c : Int) 4294967295 = c := by
  have h := bits_and_u64_nat c 4294967295 (by omega) (by omega)
  rw [show ((4294967295 : Nat) : Int) = 4294967295 from rfl] at h
  rw [h]
  have : c &&& 4294967295 = c % 2 ^ 32 := Nat.and_two_pow_sub_one_eq_mod c 32
  rw [this, Nat.mod_eq_of_lt (by omega)]

set_option maxHeartbeats 400000 in
theorem mul64_any (c : Nat) (hc : c ≤ 100000) (w : World) :
    Calls Try.prog 98 #[.int .u64 1, .int .u64 c] w fun e w' => e = .returned (.tuple #[.int .u64 0, .int .u64 c]) ∧ w = w' := by
  have e1 : bits .and .u64 1 4294967295 = 1 := mask32 1 (by omega)
  have e0 : bits .and .u64 0 4294967295 = 0 := mask32 0 (by omega)
  have e2 := mask32 c hc
  have e3 : (c : Int) / 4294967296 = 0 := by omega
  go_enter Try.func98, Try.ntmps98
  go_wp2
  go_ret2
  exact ⟨rfl, rfl⟩

set_option maxHeartbeats 400000 in
theorem mul_any (c : Nat) (hc : c ≤ 100000) (w : World) :
    Calls Try.prog 91 #[.int .u64 1, .int .u64 c] w fun e w' => e = .returned (.tuple #[.int .u64 0, .int .u64 c]) ∧ w = w' := by
  go_enter Try.func91, Try.ntmps91
  go_wp2_with fail
  refine (mul64_any c hc _).mono ?_
  rintro e w' ⟨rfl, rfl⟩
  go_wp2
  go_ret2
  exact ⟨rfl, rfl⟩

/-- The new slice after m places have been filled. -/
def part (c m : Nat) (x : Int) : List Value := List.replicate m (.int .i64 x) ++ List.replicate (c - m) (.int .i64 0)
theorem part_len (c m : Nat) (x : Int) (h : m ≤ c) : (part c m x).length = c := by simp [part]; omega
theorem part_at (c m : Nat) (x : Int) (j : Nat) (h : j < m) : (part c m x)[j]? = some (.int .i64 x) := by
  simp [part, List.getElem?_append, h]
theorem part_splice (c m k : Nat) (x : Int) (h : m + k ≤ c) : splice (part c m x) m (List.replicate k (.int .i64 x)) = part c (m + k) x := by
  unfold splice part
  rw [List.take_left' (by simp), List.drop_append, List.length_replicate, List.length_replicate, List.drop_replicate, List.drop_replicate, ← List.append_assoc, List.replicate_append_replicate, show m - (m + k) = 0 from by omega, show c - m - (m + k - m) = c - (m + k) from by omega]
  rfl
theorem part_full (c : Nat) (x : Int) : part c c x = (List.replicate c x).flatMap eI := by
  simp [part, eI, List.flatMap_replicate]

theorem own_whole {w : World} {base : Nat} {e : TypeId} {g n : Nat} {xs : List Value} {size : Nat} (h : w.ownsRow base e size (.slice (some ⟨g, 0, none⟩) n n) n xs) : w.heap[g]? = some (.cells xs.toArray e (0, 0)) := by
  rcases h.2 with ⟨hv, _⟩ | ⟨g', cap, cur, hv, _, hg, _, _, hs, ht⟩
  · cases hv
  · injection hv with h1 h2 h3
    injection h1 with h1
    injection h1 with h1
    subst h1 h3
    rw [hg]
    congr 2
    rw [List.take_of_length_le (by rw [Array.length_toList, hs]; exact Nat.le_refl _)] at ht
    rw [← ht]

theorem infoI : (Try.prog.info? 3).map (fun i => (i.zero, i.size, i.bytes)) = some (some (.int .i64 0), 1, 8) := by kernel_rfl
theorem part_zero {w : World} {g c : Nat} {x : Int} (h : w.heap[g]? = some (.cells (madeCells (Value.cells (.int .i64 0)) (c * 1)).toList.toArray 3 (0, 0))) : w.heap[g]? = some (.cells (part c 0 x).toArray 3 (0, 0)) := by
  rw [h]
  have : (madeCells (Value.cells (.int .i64 0)) (c * 1)).toList = part c 0 x := by
    show (madeCells #[.int .i64 0] (c * 1)).toList = _
    rw [toList_madeCells_one, Nat.mul_one]; simp [part]
  rw [this]
theorem one_src {w : World} {b : Nat} {x : Int} (h : w.cell? ⟨b, 0, none⟩ = some (.int .i64 x)) {A : Option Addr} (hA : A = some ⟨b, 0, none⟩) : ∃ ad, A = some ad ∧ ∀ j v, [Value.int .i64 x][j]? = some v → w.cell? (ad.add j) = some v :=
  ⟨_, hA, fun j v hv => by
    cases j with
    | zero => simp at hv; subst hv; exact h
    | succ j => simp at hv⟩

set_option maxRecDepth 100000 in
set_option maxHeartbeats 400000 in
theorem repeat_any (b : Nat) (x : Int) (c : Nat) (hc : c ≤ 100000) (h0 : 0 < c) (w : World) (hx : w.cell? ⟨b, 0, none⟩ = some (.int .i64 x)) (hb : b < w.heap.size) :
    Calls Try.prog 77 #[.slice (some ⟨b, 0, none⟩) 1 1, .int .i64 c] w (GivesOwn eI 1 3 (List.replicate c x) w) := by
  obtain ⟨i, hi, hz, hs, hby⟩ := info_parts infoI
  have hm : c ≤ maxLen := by unfold maxLen; omega
  have hmin : [Value.int .i64 x].length = Nat.min 1 c := by show 1 = min 1 c; omega
  have hfit0 : 0 + [Value.int .i64 x].length ≤ (part c 0 x).length := by rw [part_len _ _ _ (Nat.zero_le _)]; exact h0
  have HM := Lib.hid hmin
  clear hmin
  go_enter Try.func77, Try.ntmps77
  go_wp2_with fail
  refine (mul_any c hc _).mono ?_
  rintro e w' ⟨rfl, rfl⟩
  go_wp2_with (first
    | (at_make; refine wpList_make_full _ rfl _ _ _ rfl w.heap.size 3 i _ 1 (by kernel_rfl) hi hz hs _ _ _ _ c rfl rfl rfl rfl (by rw [hby]; omega) hm (Nat.le_refl _) ?_; intro w1 hown hgrow; have hx1 := (hgrow.cell_far ⟨b, 0, none⟩ hb (by simp)).trans hx; have hb1 := (Below.refl w.heap.size w).grown hgrow (Nat.le_refl _) (fun k e => by cases e); have hg1 := Lib.hid (part_zero (x := x) (own_whole hown)); clear hown hgrow)
    | (refine wpList_copy_splice (o := ⟨some 33, _, _, _, _, _⟩) rfl (.tmp 31) (.tmp 32) 71 71 rfl 3 (by kernel_rfl) (by kernel_rfl) (some ⟨w.heap.size, 0, none⟩) (some ⟨b, 0, none⟩) c c 1 1 (by rfl) (by rfl) w.heap.size 0 (part c 0 x) 3 hg1.out [.int .i64 x] HM.out (fun _ => ⟨rfl, one_src hx1 rfl⟩) hfit0 (fun v hv => by simp at hv; subst hv; rfl) w.heap.size w hb1 (Nat.le_refl _) ?_; intro w2 hg2 hb2))
  have hg3 : w2.heap[w.heap.size]? = some (.cells (part c 1 x).toArray 3 (0, 0)) := by
    have := hg2.out
    rw [show splice (part c 0 x) 0 [Value.int .i64 x] = part c (0 + 1) x from part_splice c 0 1 x (by omega)] at this
    exact this
  have HG3 := Lib.hid hg3
  clear hg3 hg2 hg1 hb1 hx1 hfit0
  go_loopw [8] (fun v wr => ∃ m : Nat, 1 ≤ m ∧ m ≤ c ∧ v = .int .i64 m ∧ Hid (wr.heap[w.heap.size]? = some (.cells (part c m x).toArray 3 (0, 0))) ∧ Below w.heap.size w wr) (fun v _ => c - (intOf v).toNat)
  case atStart => exact ⟨1, by omega, by omega, rfl, HG3, hb2⟩
  case round =>
    obtain ⟨m, hm1, hm2, rfl, hg, hbl⟩ := hrel
    by_cases hlt : m < c
    · have hk : (List.replicate (min m (c - m)) (Value.int .i64 x)).length = Nat.min m (c - m) := by simp
      have HK := Lib.hid hk
      clear hk
      have i1 : (0 : Int) ≤ (m : Int) := by omega
      have i2 : (m : Int) ≤ (c : Int) := by omega
      have hcm : ¬ c = m := by omega
      have hfit : m + (List.replicate (min m (c - m)) (Value.int .i64 x)).length ≤ (part c m x).length := by rw [part_len _ _ _ hm2]; simp; omega
      have HF := Lib.hid hfit
      clear hfit
      have hsrc : ∃ ad, (some ⟨w.heap.size, 0, none⟩ : Option Addr) = some ad ∧ ∀ j v, (List.replicate (min m (c - m)) (Value.int .i64 x))[j]? = some v → wr.drew.cell? (ad.add j) = some v := by
        refine ⟨_, rfl, fun j v hv => ?_⟩
        have hj : j < min m (c - m) := by have := (List.getElem?_eq_some_iff.1 hv).1; simpa using this
        have hv' : v = .int .i64 x := List.eq_of_mem_replicate (List.mem_of_getElem? hv)
        subst hv'
        refine World.news_of_block (w := wr.drew) (hg.out) j _ ?_
        simpa using part_at c m x j (by omega)
      have HS := Lib.hid hsrc
      clear hsrc
      go_wp2
      go_region_held3 (fun _ => True) (trivial) ((refine step_copy_splice (o := ⟨some 45, _, _, _, _, _⟩) rfl (.tmp 41) (.tmp 44) 71 71 rfl 3 (by kernel_rfl) (by kernel_rfl) (some ⟨w.heap.size, m, none⟩) (some ⟨w.heap.size, 0, none⟩) (c - m) (c - m) m c (by rfl) (by rfl) w.heap.size m (part c m x) 3 hg.out (List.replicate (min m (c - m)) (.int .i64 x)) HK.out (fun _ => ⟨rfl, HS.out⟩) HF.out (fun v hv => by have := List.eq_of_mem_replicate hv; subst this; rfl) w.heap.size w hbl.drew (Nat.le_refl _) ?_; intro w3 hg3 hb3))
      have hwr : IntKind.i64.wrap ((m : Int) + ((min m (c - m) : Nat) : Int)) = ((m + min m (c - m) : Nat) : Int) := by
        rw [IntWalk.i64_in _ (by omega)]; simp
      rw [hwr]
      clear hwr
      go_wp2
      go_roundw
      case rel =>
        refine ⟨m + min m (c - m), by omega, by omega, by go_num, ?_, hb3⟩
        have := hg3.out
        rw [part_splice c m _ x (by omega)] at this
        exact this
      case measure => simp [intOf]; omega
    · go_wp2
      go_ret
      obtain rfl : m = c := by omega
      refine ⟨some ⟨w.heap.size, 0, none⟩, m, m, rfl, ⟨by simp, ?_⟩, hbl⟩
      have e1 := hg.out
      rw [part_full] at e1
      refine ⟨by rw [flatMap_len enc1]; simp, .inr ⟨w.heap.size, m, _, rfl, Nat.le_refl _, e1, Nat.le_refl _, hm, ?_, ?_⟩⟩
      · rw [List.size_toArray, flatMap_len enc1]; simp
      · rw [List.take_of_length_le (by rw [flatMap_len enc1]; simp)]
end Go.Proofs.Ytlkfcbdbieenhaa
