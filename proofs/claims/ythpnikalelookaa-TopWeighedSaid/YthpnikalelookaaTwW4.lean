/-
  TopWeighed, fourth walks: the hull of results, Scale.
-/
import Derived.Test.YthpnikalelookaaTwW3
namespace Go.Proofs.Ythpnikalelookaa
open Go.RowKit

theorem grown_of {w w' : World} (h : Below w.heap.size w w') (row : Option Nat) : w.grownBy w' row := ⟨h.os, h.tape, h.output, h.size, fun k hk _ => h.block k hk⟩
theorem grown_set {w w' : World} {g : Nat} (h : w.grownBy w' (some g)) {p : Addr} (hp : p.block = g) (u : Value) : w.grownBy (w'.setCell p u) (some g) :=
  ⟨h.os, h.tape, h.output, by simpa [World.setCell] using h.size, fun k hk hne => (Below.heap_setCell w' p u k (by rw [hp]; intro h0; exact hne (by rw [h0]))).trans (h.block k hk hne)⟩
theorem grown_put {w w' : World} {g : Nat} (h : w.grownBy w' (some g)) (j : Nat) (u : Value) : w.grownBy (w'.setCell ⟨g, j, none⟩ u) (some g) := grown_set h rfl u
theorem Bk.put {w : World} {g : Nat} {t : TypeId} {cs : Array Value} (h : Bk w g t cs) (j : Nat) (u : Value) (cs' : Array Value) (hcs : cs.setIfInBounds j u = cs') : Bk (w.setCell ⟨g, j, none⟩ u) g t cs' := hcs ▸ h.set j u
theorem grown_drew {w w' : World} {row : Option Nat} (h : w.grownBy w' row) : w.grownBy w'.drew row := ⟨h.os, h.tape, h.output, h.size, h.block⟩
theorem grown_drewN {w w' : World} {row : Option Nat} (h : w.grownBy w' row) (n : Nat) : w.grownBy (w'.drewN n) row := ⟨h.os, h.tape, h.output, h.size, h.block⟩
theorem grown_trans {a b c : World} {row : Option Nat} (h : a.grownBy b row) (k : b.grownBy c row) : a.grownBy c row :=
  ⟨k.os.trans h.os, k.tape.trans h.tape, k.output.trans h.output, Nat.le_trans h.size k.size, fun i hi hne => (k.block i (Nat.lt_of_lt_of_le hi h.size) hne).trans (h.block i hi hne)⟩

set_option maxHeartbeats 4000000 in
theorem add_first (g : Nat) (a b : Int) (ha : 0 ≤ a) (hb : 0 ≤ b) (ha1 : a ≤ 1000000000000000) (hb1 : b ≤ 1000000000000000) (hab : a * b ≤ 1000000000000000) (w : World)
    (hk : Bk w g 54 #[.int .i64 0, .int .i64 0, .bool false, .bool false]) :
    Calls Try.prog 16 #[.pointer (some ⟨g, 0, none⟩), .int .i64 a, .int .i64 b, .int .i64 1] w fun e w' => e = .returned (.tuple #[]) ∧ Bk w' g 54 #[.int .i64 (a * b), .int .i64 (a * b), .bool true, .bool false] ∧ w.grownBy w' (some g) := by
  have hz : 0 ≤ a * b := Int.mul_nonneg ha hb
  have HP := Lib.hid (product_any a b ha hb ha1 hb1 (by omega))
  generalize a * b = z at *
  go_enter Try.func16, Try.ntmps16
  go_wp2_with fail
  refine (HP.out w).mono ?_
  rintro e w1 ⟨rfl, hb1⟩
  go_wp2_with fail
  refine (over_any z hz hab _).mono ?_
  rintro e w2 ⟨rfl, hb2⟩
  have k2 := (hk.below hb1 hk.lt).below hb2 (Nat.lt_of_lt_of_le hk.lt hb1.size)
  have hbb := hb1.trans (hb2.mono hb1.size)
  have c0 : w2.cell? ⟨g, 0, none⟩ = some (.int .i64 0) := k2.cell rfl
  have c1 : w2.cell? ⟨g, 1, none⟩ = some (.int .i64 0) := k2.cell rfl
  have c2 : w2.cell? ⟨g, 2, none⟩ = some (.bool false) := k2.cell rfl
  have c3 : w2.cell? ⟨g, 3, none⟩ = some (.bool false) := k2.cell rfl
  have f0 := k2.frozen 0
  have f1 := k2.frozen 1
  have f2 := k2.frozen 2
  have f3 := k2.frozen 3
  have HB := Lib.hid hbb
  have K2 := Lib.hid k2
  clear hb1 hb2 hbb k2
  go_wp2
  go_region
  go_wp2
  refine bodyPost_end (v := .tuple #[]) (by simp [results, Try.results16, go_sem]) rfl ⟨rfl, ?_, ?_⟩
  · exact (((((K2.out.put 0 (.int .i64 z) #[.int .i64 z, .int .i64 0, .bool false, .bool false] rfl).put 1 (.int .i64 z) #[.int .i64 z, .int .i64 z, .bool false, .bool false] rfl).put 2 (.bool true) #[.int .i64 z, .int .i64 z, .bool true, .bool false] rfl).put 0 (.int .i64 z) #[.int .i64 z, .int .i64 z, .bool true, .bool false] rfl).put 1 (.int .i64 z) #[.int .i64 z, .int .i64 z, .bool true, .bool false] rfl).drew
  · exact grown_drew (grown_put (grown_put (grown_put (grown_put (grown_put (grown_of HB.out _) _ _) _ _) _ _) _ _) _ _)

set_option maxHeartbeats 4000000 in
theorem add_second (g : Nat) (a b c d : Int) (ha : 0 ≤ a) (hb : 0 ≤ b) (ha1 : a ≤ 1000000000000000) (hb1 : b ≤ 1000000000000000) (hab : a * b ≤ 1000000000000000) (w : World)
    (hc : c ≤ a * b) (hd : d ≤ a * b)
    (hk : Bk w g 54 #[.int .i64 c, .int .i64 d, .bool true, .bool false]) :
    Calls Try.prog 16 #[.pointer (some ⟨g, 0, none⟩), .int .i64 a, .int .i64 b, .int .i64 1] w fun e w' => e = .returned (.tuple #[]) ∧ Bk w' g 54 #[.int .i64 c, .int .i64 (a * b), .bool true, .bool false] ∧ w.grownBy w' (some g) := by
  have hz : 0 ≤ a * b := Int.mul_nonneg ha hb
  have HP := Lib.hid (product_any a b ha hb ha1 hb1 (by omega))
  generalize a * b = z at *
  have hm1 : min c z = c := by omega
  have hm2 : max d z = z := by omega
  rcases Int.lt_or_eq_of_le hd with hlt | heq
  case' inr => subst heq
  all_goals
    go_enter Try.func16, Try.ntmps16
    go_wp2_with fail
    refine (HP.out w).mono ?_
    rintro e w1 ⟨rfl, hb1⟩
    go_wp2_with fail
    refine (over_any _ hz hab _).mono ?_
    rintro e w2 ⟨rfl, hb2⟩
    have k2 := (hk.below hb1 hk.lt).below hb2 (Nat.lt_of_lt_of_le hk.lt hb1.size)
    have hbb := hb1.trans (hb2.mono hb1.size)
    have c0 : w2.cell? ⟨g, 0, none⟩ = some (.int .i64 c) := k2.cell rfl
    have c1 : w2.cell? ⟨g, 1, none⟩ = some (.int .i64 d) := k2.cell rfl
    have c2 : w2.cell? ⟨g, 2, none⟩ = some (.bool true) := k2.cell rfl
    have c3 : w2.cell? ⟨g, 3, none⟩ = some (.bool false) := k2.cell rfl
    have f0 := k2.frozen 0
    have f1 := k2.frozen 1
    have f2 := k2.frozen 2
    have f3 := k2.frozen 3
    have HB := Lib.hid hbb
    have K2 := Lib.hid k2
    clear hb1 hb2 hbb k2
    go_wp2
    go_region
    go_wp2
    refine bodyPost_end (v := .tuple #[]) (by simp [results, Try.results16, go_sem]) rfl ⟨rfl, ?_, grown_drew (grown_put (grown_put (grown_of HB.out _) _ _) _ _)⟩
    exact ((K2.out.put 0 (.int .i64 c) #[.int .i64 c, .int .i64 d, .bool true, .bool false] rfl).put 1 _ _ rfl).drew

set_option maxHeartbeats 400000 in
theorem fits_any (a b : Int) (ha : isN a) (hb : isN b) (w : World) :
    Calls Try.prog 19 #[.int .i64 a, .int .i64 b] w fun e w' => e = .returned (.tuple #[.agg #[.int .i64 a, .int .i64 b], .int .i64 0]) ∧ Below w.heap.size w w' := by
  have HF := Lib.hid (far_none (l := [a, b]) (fun x hx => by simp at hx; rcases hx with rfl | rfl; exact ha; exact hb))
  clear ha hb
  go_enter Try.func19, Try.ntmps19
  go_wp2_with fail
  have hs := Sl.new enc1 (w.alloc (.cells #[.int .i64 0, .int .i64 0] 24)) 3 (w.heap.size + 1) (by simp) [a, b] #[.int .i64 a, .int .i64 b] (by simp [maxLen]) rfl
  refine (is_any (some ⟨w.heap.size + 1, 0, none⟩) 2 2 (w.heap.size + 1 + 1) [a, b] _ hs (by simp) (by simp)).mono ?_
  rintro e w1 ⟨rfl, hb1⟩
  rw [HF.out]
  have k0 := ((Bk.new w #[.int .i64 0, .int .i64 0] 24).alloc _).below hb1 (by simp; omega)
  have c0 : w1.cell? ⟨w.heap.size, 0, none⟩ = some (.int .i64 0) := k0.cell rfl
  have c1 : w1.cell? ⟨w.heap.size, 1, none⟩ = some (.int .i64 0) := k0.cell rfl
  have f0 := k0.frozen 0
  have f1 := k0.frozen 1
  have hbb : Below w.heap.size w w1 := (((Below.refl w.heap.size w).alloc (Nat.le_refl _) _).alloc (by simp) _).trans (hb1.mono (by simp; omega))
  clear hb1 hs k0
  go_wp2
  refine bodyPost_ret (v := .tuple #[.agg #[.int .i64 a, .int .i64 b], .int .i64 0]) (by simp [results, Try.results19, go_sem, c0, c1]) rfl ⟨rfl, ?_⟩
  exact (hbb.setCell (Nat.le_refl _) _).setCell (Nat.le_refl _) _
end Go.Proofs.Ythpnikalelookaa
