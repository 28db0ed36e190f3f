/-
  Words for memory that the walks of this family share: a slice that reads as a list, and what keeps it.
-/
import Derived.WalkKit
import Derived.WalkSpells
import Derived.WalkLawsBesides
import Derived.Lib.Hide
import Derived.Deep.AppendLies
import Derived.Laws.OwnMore
import Derived.Deep.Draws
namespace Go.Proofs.Ythoigkgjidcklaa
open Go.RowKit

/-- The elements of the slice value '.slice A n cap' read as xs, each by its cells (c cells an element), in a block below B. -/
def Sl {α : Type} (enc : α → List Value) (c : Nat) (w : World) (B : Nat) (A : Option Addr) (n : Nat) (xs : List α) : Prop :=
  xs.length = n ∧ (xs ≠ [] → ∃ b off, A = some ⟨b, off, none⟩ ∧ b < B ∧
    ∀ i x, xs[i]? = some x → ∀ j u, (enc x)[j]? = some u → w.cell? ⟨b, off + i * c + j, none⟩ = some u)

theorem Sl.nil {α : Type} {enc : α → List Value} {c : Nat} {w : World} {B : Nat} {A : Option Addr} : Sl enc c w B A 0 [] := ⟨rfl, fun h => absurd rfl h⟩

section
variable {α : Type} {enc : α → List Value} {c : Nat} {w w' : World} {B B' : Nat} {A : Option Addr} {n : Nat} {xs : List α}
theorem Sl.keep (h : Sl enc c w B A n xs) (hk : ∀ p : Addr, p.block < B → w'.cell? p = w.cell? p) : Sl enc c w' B A n xs := ⟨h.1, fun hx => by
  obtain ⟨b, off, e, hb, hc⟩ := h.2 hx
  exact ⟨b, off, e, hb, fun i x hi j u hu => (hk _ hb).trans (hc i x hi j u hu)⟩⟩
theorem Sl.below (h : Sl enc c w B A n xs) (hb : Below B w w') : Sl enc c w' B A n xs := h.keep fun _ hp => hb.cell hp
theorem Sl.more (h : Sl enc c w B A n xs) (hB : B ≤ B') : Sl enc c w B' A n xs := ⟨h.1, fun hx => by
  obtain ⟨b, off, e, hb, hc⟩ := h.2 hx
  exact ⟨b, off, e, by omega, hc⟩⟩
theorem Sl.len (h : Sl enc c w B A n xs) : xs.length = n := h.1
theorem Sl.at_ (h : Sl enc c w B A n xs) {k : Nat} {x : α} (hk : xs[k]? = some x) : ∃ b off, A = some ⟨b, off, none⟩ ∧ b < B ∧ ∀ j u, (enc x)[j]? = some u → w.cell? ⟨b, off + k * c + j, none⟩ = some u := by
  obtain ⟨b, off, e, hb, hc⟩ := h.2 (by intro h0; rw [h0] at hk; simp at hk)
  exact ⟨b, off, e, hb, hc k x hk⟩
end

/-- One int an element; two; three; four. -/
def eI (x : Int) : List Value := [.int .i64 x]
def eII (x : Int × Int) : List Value := [.int .i64 x.1, .int .i64 x.2]
def eIII (x : Int × Int × Int) : List Value := [.int .i64 x.1, .int .i64 x.2.1, .int .i64 x.2.2]
def eIV (x : Int × Int × Int × Int) : List Value := [.int .i64 x.1, .int .i64 x.2.1, .int .i64 x.2.2.1, .int .i64 x.2.2.2]

section
variable {w : World} {B : Nat} {A : Option Addr} {n k : Nat}
theorem Sl.at1 {xs : List Int} (h : Sl eI 1 w B A n xs) {x : Int} (hk : xs[k]? = some x) : ∃ b off, A = some ⟨b, off, none⟩ ∧ b < B ∧ w.cell? ⟨b, off + k, none⟩ = some (.int .i64 x) := by
  obtain ⟨b, off, e, hb, hc⟩ := h.at_ hk
  exact ⟨b, off, e, hb, by simpa using hc 0 _ rfl⟩
theorem Sl.at2 {xs : List (Int × Int)} (h : Sl eII 2 w B A n xs) {x : Int × Int} (hk : xs[k]? = some x) : ∃ b off, A = some ⟨b, off, none⟩ ∧ b < B ∧ w.cell? ⟨b, off + k * 2, none⟩ = some (.int .i64 x.1) ∧ w.cell? ⟨b, off + k * 2 + 1, none⟩ = some (.int .i64 x.2) := by
  obtain ⟨b, off, e, hb, hc⟩ := h.at_ hk
  exact ⟨b, off, e, hb, hc 0 _ rfl, hc 1 _ rfl⟩
theorem Sl.at3 {xs : List (Int × Int × Int)} (h : Sl eIII 3 w B A n xs) {x : Int × Int × Int} (hk : xs[k]? = some x) : ∃ b off, A = some ⟨b, off, none⟩ ∧ b < B ∧ w.cell? ⟨b, off + k * 3, none⟩ = some (.int .i64 x.1) ∧ w.cell? ⟨b, off + k * 3 + 1, none⟩ = some (.int .i64 x.2.1) ∧ w.cell? ⟨b, off + k * 3 + 2, none⟩ = some (.int .i64 x.2.2) := by
  obtain ⟨b, off, e, hb, hc⟩ := h.at_ hk
  exact ⟨b, off, e, hb, hc 0 _ rfl, hc 1 _ rfl, hc 2 _ rfl⟩
theorem Sl.at4 {xs : List (Int × Int × Int × Int)} (h : Sl eIV 4 w B A n xs) {x : Int × Int × Int × Int} (hk : xs[k]? = some x) : ∃ b off, A = some ⟨b, off, none⟩ ∧ b < B ∧ w.cell? ⟨b, off + k * 4, none⟩ = some (.int .i64 x.1) ∧ w.cell? ⟨b, off + k * 4 + 1, none⟩ = some (.int .i64 x.2.1) ∧ w.cell? ⟨b, off + k * 4 + 2, none⟩ = some (.int .i64 x.2.2.1) ∧ w.cell? ⟨b, off + k * 4 + 3, none⟩ = some (.int .i64 x.2.2.2) := by
  obtain ⟨b, off, e, hb, hc⟩ := h.at_ hk
  exact ⟨b, off, e, hb, hc 0 _ rfl, hc 1 _ rfl, hc 2 _ rfl, hc 3 _ rfl⟩
end

/-- Block g is just the cells cs of type t, none of them frozen. -/
def Bk (w : World) (g : Nat) (t : TypeId) (cs : Array Value) : Prop := w.heap[g]? = some (.cells cs t (0, 0))
section
variable {w w' : World} {g : Nat} {t : TypeId} {cs : Array Value}
theorem Bk.lt (h : Bk w g t cs) : g < w.heap.size := by
  rcases Nat.lt_or_ge g w.heap.size with hlt | hge
  · exact hlt
  · unfold Bk at h; rw [Array.getElem?_eq_none hge] at h; cases h
theorem Bk.cell (h : Bk w g t cs) {j : Nat} {u : Value} (hj : cs[j]? = some u) : w.cell? ⟨g, j, none⟩ = some u := by
  unfold Bk at h; simp [World.cell?, h, hj]
theorem Bk.frozen (h : Bk w g t cs) (j : Nat) : w.frozen? ⟨g, j, none⟩ = false := by
  unfold Bk at h; simp [World.frozen?, h]
theorem Bk.new (w : World) (cs : Array Value) (t : TypeId) : Bk (w.alloc (.cells cs t)) w.heap.size t cs := heap_alloc_new w _
theorem Bk.alloc (h : Bk w g t cs) (o : Obj) : Bk (w.alloc o) g t cs := (Below.heap_alloc w o g h.lt).trans h
theorem Bk.drew (h : Bk w g t cs) : Bk w.drew g t cs := h
theorem Bk.below {B : Nat} (h : Bk w g t cs) (hb : Below B w w') (hg : g < B) : Bk w' g t cs := (hb.block g hg).trans h
theorem Bk.grown {row : Option Nat} (h : Bk w g t cs) (hg : w.grownBy w' row) (hne : some g ≠ row) : Bk w' g t cs := (hg.block g h.lt hne).trans h
theorem Bk.other (h : Bk w g t cs) {p : Addr} (hp : g ≠ p.block) (u : Value) : Bk (w.setCell p u) g t cs := (Below.heap_setCell w p u g hp).trans h
theorem Bk.set (h : Bk w g t cs) (j : Nat) (u : Value) : Bk (w.setCell ⟨g, j, none⟩ u) g t (cs.setIfInBounds j u) := by
  have hl := h.lt
  unfold Bk at h ⊢
  have h2 : w.heap[g] = .cells cs t (0, 0) := by rw [Array.getElem?_eq_getElem hl] at h; injection h
  simp only [World.setCell]
  rw [Array.getElem?_eq_getElem (by simpa using hl), Array.getElem_modify]
  simp [h2]
end

/-- Old cells and old marks, behind a call that left what was there as it was. -/
theorem bcell {W w1 : World} (hb : Below W.heap.size W w1) : (∀ b o, b < W.heap.size → w1.cell? ⟨b, o, none⟩ = W.cell? ⟨b, o, none⟩) ∧ (∀ b o, b < W.heap.size → w1.frozen? ⟨b, o, none⟩ = W.frozen? ⟨b, o, none⟩) :=
  ⟨fun b o h => hb.cell (p := ⟨b, o, none⟩) h, fun b o h => hb.frozen (p := ⟨b, o, none⟩) h⟩

/-- A cell of a block that was just laid. -/
theorem cell_new (w : World) (cs : Array Value) (t : TypeId) (j : Nat) (u : Value) (h : cs[j]? = some u) : (w.alloc (.cells cs t)).cell? ⟨w.heap.size, j, none⟩ = some u := by
  simp [h]
theorem Sl.get {α : Type} {enc : α → List Value} {c : Nat} {w : World} {B : Nat} {A : Option Addr} {n k : Nat} {xs : List α} (h : Sl enc c w B A n xs) (hk : k < n) : ∃ x, xs[k]? = some x := ⟨xs[k]'(by rw [h.1]; exact hk), List.getElem?_eq_getElem _⟩
theorem getElem?_of_lt {α : Type} {l : List α} {k : Nat} (h : k < l.length) : ∃ x, l[k]? = some x := ⟨l[k], List.getElem?_eq_getElem h⟩
theorem take_snoc {α : Type} {l : List α} {k : Nat} {x : α} (h : l[k]? = some x) : l.take (k + 1) = l.take k ++ [x] := by
  rw [List.take_add_one, h]; rfl
theorem ret_int {k : IntKind} {a b : Int} (h : a = b) : Ending.returned (.int k a) = .returned (.int k b) := by rw [h]
theorem ret_bool {a b : Bool} (h : a = b) : Ending.returned (.bool a) = .returned (.bool b) := by rw [h]
end Go.Proofs.Ythoigkgjidcklaa
