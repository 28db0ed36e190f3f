/-
  TopWeighed, without any program in sight: lots, what is valid, what a charge contains, and which condition is broken first.
-/
import Derived.Test.YthpnikalelookaaApp
namespace Go.Proofs.Ythpnikalelookaa
open Go.RowKit

/-- A lot, flat: how many, the mass, three ranges, the cost. -/
structure LotP where
  cnt : Int
  mass : Int
  l0 : Int
  h0 : Int
  l1 : Int
  h1 : Int
  l2 : Int
  h2 : Int
  cost : Int
def eLot (x : LotP) : List Value := [.int .i64 x.cnt, .int .i64 x.mass, .int .i64 x.l0, .int .i64 x.h0, .int .i64 x.l1, .int .i64 x.h1, .int .i64 x.l2, .int .i64 x.h2, .int .i64 x.cost]
theorem encLot : Enc eLot 9 := fun x => ⟨rfl, fun u hu => by simp [eLot] at hu; rcases hu with rfl | rfl | rfl | rfl | rfl | rfl | rfl | rfl | rfl <;> rfl⟩
theorem Sl.atLot {w : World} {B : Nat} {A : Option Addr} {n k : Nat} {xs : List LotP} (h : Sl eLot 9 w B A n xs) {x : LotP} (hk : xs[k]? = some x) : ∃ b off, A = some ⟨b, off, none⟩ ∧ b < B ∧
    w.cell? ⟨b, off + k * 9, none⟩ = some (.int .i64 x.cnt) ∧ w.cell? ⟨b, off + k * 9 + 1, none⟩ = some (.int .i64 x.mass) ∧ w.cell? ⟨b, off + k * 9 + 2, none⟩ = some (.int .i64 x.l0) ∧ w.cell? ⟨b, off + k * 9 + 3, none⟩ = some (.int .i64 x.h0) ∧
    w.cell? ⟨b, off + k * 9 + 4, none⟩ = some (.int .i64 x.l1) ∧ w.cell? ⟨b, off + k * 9 + 5, none⟩ = some (.int .i64 x.h1) ∧ w.cell? ⟨b, off + k * 9 + 6, none⟩ = some (.int .i64 x.l2) ∧ w.cell? ⟨b, off + k * 9 + 7, none⟩ = some (.int .i64 x.h2) ∧ w.cell? ⟨b, off + k * 9 + 8, none⟩ = some (.int .i64 x.cost) := by
  obtain ⟨b, off, e, hb, hc⟩ := h.at_ hk
  exact ⟨b, off, e, hb, hc 0 _ rfl, hc 1 _ rfl, hc 2 _ rfl, hc 3 _ rfl, hc 4 _ rfl, hc 5 _ rfl, hc 6 _ rfl, hc 7 _ rfl, hc 8 _ rfl⟩

/-- A slice of what was just laid. -/
theorem Sl.new {α : Type} {enc : α → List Value} {c : Nat} (he : Enc enc c) (w : World) (t : TypeId) (g : Nat) (hg : w.heap.size = g) (xs : List α) (cs : Array Value) (hm : xs.length ≤ maxLen) (hcs : cs.toList = xs.flatMap enc) :
    Sl enc c (w.alloc (.cells cs t)) (g + 1) (some ⟨g, 0, none⟩) xs.length xs := by
  subst hg
  have h := (Own.lit (e := t) (base := 0) (w := w) he (Nat.zero_le _) hm hcs).sl he
  simpa using h

theorem Bk.newAt (w : World) (cs : Array Value) (t : TypeId) (g : Nat) (hg : w.heap.size = g) : Bk (w.alloc (.cells cs t)) g t cs := hg ▸ Bk.new w cs t

def inB (n a b : Int) : Bool := decide (a ≤ n) && decide (n ≤ b)
theorem inB_t {n a b : Int} : inB n a b = true ↔ a ≤ n ∧ n ≤ b := by simp [inB]
/-- A range from 0 to some number. -/
def rngB (l h most : Int) : Bool := decide (0 ≤ l) && decide (l ≤ h) && decide (h ≤ most)
theorem rngB_t {l h m : Int} : rngB l h m = true ↔ 0 ≤ l ∧ l ≤ h ∧ h ≤ m := by simp [rngB, and_assoc]
def bndB (l0 h0 l1 h1 l2 h2 : Int) : Bool := rngB l0 h0 100000000 && rngB l1 h1 100000000 && rngB l2 h2 100000000
theorem bndB_t {l0 h0 l1 h1 l2 h2 : Int} : bndB l0 h0 l1 h1 l2 h2 = true ↔ (0 ≤ l0 ∧ l0 ≤ h0 ∧ h0 ≤ 100000000) ∧ (0 ≤ l1 ∧ l1 ≤ h1 ∧ h1 ≤ 100000000) ∧ (0 ≤ l2 ∧ l2 ≤ h2 ∧ h2 ≤ 100000000) := by
  simp only [bndB, Bool.and_eq_true, rngB_t, and_assoc]
def lotB (x : LotP) : Bool := inB x.cnt 0 1000 && inB x.mass 1 1000000 && bndB x.l0 x.h0 x.l1 x.h1 x.l2 x.h2 && inB x.cost 0 1000000
theorem lotB_t {x : LotP} : lotB x = true ↔ (0 ≤ x.cnt ∧ x.cnt ≤ 1000) ∧ (1 ≤ x.mass ∧ x.mass ≤ 1000000) ∧ ((0 ≤ x.l0 ∧ x.l0 ≤ x.h0 ∧ x.h0 ≤ 100000000) ∧ (0 ≤ x.l1 ∧ x.l1 ≤ x.h1 ∧ x.h1 ≤ 100000000) ∧ (0 ≤ x.l2 ∧ x.l2 ≤ x.h2 ∧ x.h2 ≤ 100000000)) ∧ (0 ≤ x.cost ∧ x.cost ≤ 1000000) := by
  simp only [lotB, Bool.and_eq_true, inB_t, bndB_t, and_assoc]
/-- A number of chapter 1. -/
def farB (n : Int) : Bool := decide (n < -1000000000000000) || decide (1000000000000000 < n)
def isN (n : Int) : Prop := -1000000000000000 ≤ n ∧ n ≤ 1000000000000000
theorem farB_f {n : Int} (h : isN n) : farB n = false := by unfold isN at h; simp [farB]; omega

theorem any_take_f {α : Type} {p : α → Bool} {l : List α} (h : l.any p = false) (k : Nat) : (l.take k).any p = false := by
  rw [List.any_eq_false] at h ⊢
  exact fun x hx => h x (List.mem_of_mem_take hx)
theorem any_at_f {α : Type} {p : α → Bool} {l : List α} (h : l.any p = false) {k : Nat} {x : α} (hx : l[k]? = some x) : p x = false := by
  rw [List.any_eq_false] at h
  simpa using h x (List.mem_of_getElem? hx)
end Go.Proofs.Ythpnikalelookaa
