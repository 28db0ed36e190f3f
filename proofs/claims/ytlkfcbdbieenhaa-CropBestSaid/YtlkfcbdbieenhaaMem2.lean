/-
  More words for memory: what 'Below' gives step by step, blocks behind an append, rows of the call's own.
-/
import Derived.Test.YtlkfcbdbieenhaaApp
namespace Go.Proofs.Ytlkfcbdbieenhaa
open Go.RowKit

theorem ba {a W : World} {o : Obj} (h : Below a.heap.size a W) : Below a.heap.size a (W.alloc o) := h.alloc h.size o
theorem bdr {a W : World} (h : Below a.heap.size a W) : Below a.heap.size a W.drew := h.drew
theorem below_drewN {B : Nat} {a w : World} (h : Below B a w) (n : Nat) : Below B a (w.drewN n) := ⟨h.os, h.tape, h.output, h.size, h.block⟩
theorem bs {a W : World} {p : Addr} {u : Value} (h : Below a.heap.size a W) (hp : a.heap.size ≤ p.block) : Below a.heap.size a (W.setCell p u) := h.setCell hp u
theorem thru {a W W' : World} (h : Below a.heap.size a W) (hb : Below W.heap.size W W') : Below a.heap.size a W' := h.trans (hb.mono h.size)
theorem below_of_grown {B : Nat} {a w w' : World} {g : Nat} (h : Below B a w) (hg : w.grownBy w' (some g)) (hB : B ≤ w.heap.size) (hr : B ≤ g) : Below B a w' :=
  h.grown hg hB (fun k hk => by cases hk; exact hr)
theorem Own.ge {α : Type} {enc : α → List Value} {c : Nat} {e : TypeId} {base : Nat} {w : World} {A : Option Addr} {n cap : Nat} {xs : List α} (h : Own enc c e base w A n cap xs) {k : Nat} (hk : A.map (·.block) = some k) : base ≤ k := by
  rcases h.2.2 with ⟨hv, _⟩ | ⟨g, cp, cur, hv, hbg, _⟩
  · injection hv with h1
    subst h1
    cases hk
  · injection hv with h1
    subst h1
    simp at hk
    omega
theorem Own.ne {α : Type} {enc : α → List Value} {c : Nat} {e : TypeId} {base : Nat} {w : World} {A : Option Addr} {n cap : Nat} {xs : List α} (h : Own enc c e base w A n cap xs) {k : Nat} (hk : k < base) : some k ≠ A.map (·.block) := fun he => by
  have := h.ge he.symm
  omega
theorem Own.lt {α : Type} {enc : α → List Value} {c : Nat} {e : TypeId} {base : Nat} {w : World} {A : Option Addr} {n cap : Nat} {xs : List α} (h : Own enc c e base w A n cap xs) {k : Nat} (hk : A.map (·.block) = some k) : k < w.heap.size := by
  rcases h.2.2 with ⟨hv, _⟩ | ⟨g, cp, cur, hv, hbg, hg, _⟩
  · injection hv with h1
    subst h1
    cases hk
  · injection hv with h1
    subst h1
    simp at hk
    subst hk
    rcases Nat.lt_or_ge g w.heap.size with hlt | hge
    · exact hlt
    · rw [Array.getElem?_eq_none hge] at hg; cases hg
/-- 'Below' across an append onto a row of the call's own. -/
theorem belApp {α : Type} {enc : α → List Value} {c : Nat} {e : TypeId} {base : Nat} {a w w' : World} {A : Option Addr} {n cap : Nat} {xs : List α} {B : Nat} (h : Below B a w) (ho : Own enc c e base w A n cap xs) (hg : w.grownBy w' (A.map (·.block))) (hB : B ≤ w.heap.size) (hb : B ≤ base) : Below B a w' :=
  h.grown hg hB (fun _ hk => Nat.le_trans hb (ho.ge hk))
theorem Bk.app {α : Type} {enc : α → List Value} {c : Nat} {e : TypeId} {base : Nat} {w w' : World} {A : Option Addr} {n cap : Nat} {xs : List α} {g : Nat} {t : TypeId} {cs : Array Value} (h : Bk w g t cs) (ho : Own enc c e base w A n cap xs) (hg : w.grownBy w' (A.map (·.block))) (hb : g < base) : Bk w' g t cs :=
  h.grown hg (ho.ne hb)
/-- A new block that lies behind the row. -/
theorem Bk.app2 {α : Type} {enc : α → List Value} {c : Nat} {e : TypeId} {base : Nat} {w0 w w' : World} {A : Option Addr} {n cap : Nat} {xs : List α} {g : Nat} {t : TypeId} {cs : Array Value} (h : Bk w g t cs) (ho : Own enc c e base w0 A n cap xs) (hg : w.grownBy w' (A.map (·.block))) (hb : w0.heap.size ≤ g) : Bk w' g t cs :=
  h.grown hg (fun he => by have := ho.lt he.symm; omega)
theorem Bk.newAt (w : World) (cs : Array Value) (t : TypeId) (g : Nat) (hg : w.heap.size = g) : Bk (w.alloc (.cells cs t)) g t cs := hg ▸ Bk.new w cs t
theorem Bk.drewN {w : World} {g : Nat} {t : TypeId} {cs : Array Value} (h : Bk w g t cs) (n : Nat) : Bk (w.drewN n) g t cs := h
/-- A store into a block that is known whole. -/
theorem Bk.put {w : World} {g : Nat} {t : TypeId} {cs : Array Value} (h : Bk w g t cs) (j : Nat) (u : Value) (cs' : Array Value) (e : cs.setIfInBounds j u = cs') : Bk (w.setCell ⟨g, j, none⟩ u) g t cs' := e ▸ h.set j u
theorem Sl.new {α : Type} {enc : α → List Value} {c : Nat} (he : Enc enc c) (w : World) (t : TypeId) (g : Nat) (hg : w.heap.size = g) (xs : List α) (cs : Array Value) (hm : xs.length ≤ maxLen) (hcs : cs.toList = xs.flatMap enc) :
    Sl enc c (w.alloc (.cells cs t)) (g + 1) (some ⟨g, 0, none⟩) xs.length xs := by
  subst hg
  have h := (Own.lit (e := t) (base := 0) (w := w) he (Nat.zero_le _) hm hcs).sl he
  simpa using h
theorem grown_set (w : World) (p : Addr) (u : Value) : w.grownBy (w.setCell p u) (some p.block) :=
  ⟨rfl, rfl, rfl, by simp [World.setCell], fun i _ hne => Below.heap_setCell w p u i (fun e => hne (by rw [e]))⟩
/-- A store that hits another block than the row's. -/
theorem Own.other {α : Type} {enc : α → List Value} {c : Nat} {e : TypeId} {base : Nat} {w : World} {A : Option Addr} {n cap : Nat} {xs : List α} (h : Own enc c e base w A n cap xs) {p : Addr} (hp : p.block < base) (u : Value) : Own enc c e base (w.setCell p u) A n cap xs := by
  refine h.kept (grown_set w p u) ?_
  cases hA : A.map (·.block) with
  | none => exact .inl rfl
  | some k =>
    refine .inr (fun he => ?_)
    injection he with he
    have := h.ge hA
    omega
/-- A block's first cells, all at once. -/
theorem Bk.c1 {w : World} {g : Nat} {t : TypeId} {v0 : Value} (h : Bk w g t #[v0]) : w.cell? ⟨g, 0, none⟩ = some v0 ∧ w.frozen? ⟨g, 0, none⟩ = false := ⟨h.cell rfl, h.frozen 0⟩
theorem Bk.c2 {w : World} {g : Nat} {t : TypeId} {v0 v1 : Value} (h : Bk w g t #[v0, v1]) : (w.cell? ⟨g, 0, none⟩ = some v0 ∧ w.cell? ⟨g, 1, none⟩ = some v1) ∧ (w.frozen? ⟨g, 0, none⟩ = false ∧ w.frozen? ⟨g, 1, none⟩ = false) := ⟨⟨h.cell rfl, h.cell rfl⟩, ⟨h.frozen 0, h.frozen 1⟩⟩
theorem Bk.c3 {w : World} {g : Nat} {t : TypeId} {v0 v1 v2 : Value} (h : Bk w g t #[v0, v1, v2]) : (w.cell? ⟨g, 0, none⟩ = some v0 ∧ w.cell? ⟨g, 1, none⟩ = some v1 ∧ w.cell? ⟨g, 2, none⟩ = some v2) ∧ (w.frozen? ⟨g, 0, none⟩ = false ∧ w.frozen? ⟨g, 1, none⟩ = false ∧ w.frozen? ⟨g, 2, none⟩ = false) := ⟨⟨h.cell rfl, h.cell rfl, h.cell rfl⟩, ⟨h.frozen 0, h.frozen 1, h.frozen 2⟩⟩
theorem Bk.c4 {w : World} {g : Nat} {t : TypeId} {v0 v1 v2 v3 : Value} (h : Bk w g t #[v0, v1, v2, v3]) : (w.cell? ⟨g, 0, none⟩ = some v0 ∧ w.cell? ⟨g, 1, none⟩ = some v1 ∧ w.cell? ⟨g, 2, none⟩ = some v2 ∧ w.cell? ⟨g, 3, none⟩ = some v3) ∧ (w.frozen? ⟨g, 0, none⟩ = false ∧ w.frozen? ⟨g, 1, none⟩ = false ∧ w.frozen? ⟨g, 2, none⟩ = false ∧ w.frozen? ⟨g, 3, none⟩ = false) :=
  ⟨⟨h.cell rfl, h.cell rfl, h.cell rfl, h.cell rfl⟩, ⟨h.frozen 0, h.frozen 1, h.frozen 2, h.frozen 3⟩⟩
end Go.Proofs.Ytlkfcbdbieenhaa
