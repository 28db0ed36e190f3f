/-
  TopWeighed, the law's walk behind the weighing.
-/
import Derived.Test.YthpnikalelookaaTwWF
import Derived.Deep.DeepCutAuto
namespace Go.Proofs.Ythpnikalelookaa
open Go.RowKit

/-- The law's own memory: its argument's box. -/
def LA (w W : World) (A : Option Addr) (n cap : Nat) (ml mh t0 u0 t1 u1 t2 u2 : Int) : Prop := Bk W w.heap.size 28 #[.slice A n cap, .int .i64 ml, .int .i64 mh, .int .i64 t0, .int .i64 u0, .int .i64 t1, .int .i64 u1, .int .i64 t2, .int .i64 u2] ∧ Below w.heap.size w W
theorem LA.box {w W : World} {A : Option Addr} {n cap : Nat} {ml mh t0 u0 t1 u1 t2 u2 : Int} (h : LA w W A n cap ml mh t0 u0 t1 u1 t2 u2) : Bk W w.heap.size 28 #[.slice A n cap, .int .i64 ml, .int .i64 mh, .int .i64 t0, .int .i64 u0, .int .i64 t1, .int .i64 u1, .int .i64 t2, .int .i64 u2] := h.1
theorem LA.bel {w W : World} {A : Option Addr} {n cap : Nat} {ml mh t0 u0 t1 u1 t2 u2 : Int} (h : LA w W A n cap ml mh t0 u0 t1 u1 t2 u2) : Below w.heap.size w W := h.2
theorem LA.below {w W W' : World} {A : Option Addr} {n cap : Nat} {ml mh t0 u0 t1 u1 t2 u2 : Int} (h : LA w W A n cap ml mh t0 u0 t1 u1 t2 u2) (hb : Below W.heap.size W W') : LA w W' A n cap ml mh t0 u0 t1 u1 t2 u2 :=
  ⟨h.1.below hb h.1.lt, h.2.trans (hb.mono h.2.size)⟩

theorem Bk.fr9 {w : World} {g : Nat} {t : TypeId} {cs : Array Value} (h : Bk w g t cs) : w.frozen? ⟨g, 0, none⟩ = false ∧ w.frozen? ⟨g, 1, none⟩ = false ∧ w.frozen? ⟨g, 2, none⟩ = false ∧ w.frozen? ⟨g, 3, none⟩ = false ∧ w.frozen? ⟨g, 4, none⟩ = false ∧ w.frozen? ⟨g, 5, none⟩ = false ∧ w.frozen? ⟨g, 6, none⟩ = false ∧ w.frozen? ⟨g, 7, none⟩ = false ∧ w.frozen? ⟨g, 8, none⟩ = false :=
  ⟨h.frozen 0, h.frozen 1, h.frozen 2, h.frozen 3, h.frozen 4, h.frozen 5, h.frozen 6, h.frozen 7, h.frozen 8⟩
theorem Bk.other9 {w : World} {H g : Nat} {t : TypeId} {cs : Array Value} (h : Bk w H t cs) (hne : H ≠ g) (v0 v1 v2 v3 v4 v5 v6 v7 v8 : Value) :
    Bk (((((((((w.setCell ⟨g, 0, none⟩ v0).setCell ⟨g, 1, none⟩ v1).setCell ⟨g, 2, none⟩ v2).setCell ⟨g, 3, none⟩ v3).setCell ⟨g, 4, none⟩ v4).setCell ⟨g, 5, none⟩ v5).setCell ⟨g, 6, none⟩ v6).setCell ⟨g, 7, none⟩ v7).setCell ⟨g, 8, none⟩ v8) H t cs :=
  ((((((((h.other hne _).other hne _).other hne _).other hne _).other hne _).other hne _).other hne _).other hne _).other hne _
theorem Bk.put9 {w : World} {g : Nat} {t : TypeId} {x0 x1 x2 x3 x4 x5 x6 x7 x8 : Value} (h : Bk w g t #[x0, x1, x2, x3, x4, x5, x6, x7, x8]) (v0 v1 v2 v3 v4 v5 v6 v7 v8 : Value) :
    Bk (((((((((w.setCell ⟨g, 0, none⟩ v0).setCell ⟨g, 1, none⟩ v1).setCell ⟨g, 2, none⟩ v2).setCell ⟨g, 3, none⟩ v3).setCell ⟨g, 4, none⟩ v4).setCell ⟨g, 5, none⟩ v5).setCell ⟨g, 6, none⟩ v6).setCell ⟨g, 7, none⟩ v7).setCell ⟨g, 8, none⟩ v8) g t #[v0, v1, v2, v3, v4, v5, v6, v7, v8] :=
  ((((((((h.put 0 v0 #[v0, x1, x2, x3, x4, x5, x6, x7, x8] rfl).put 1 v1 #[v0, v1, x2, x3, x4, x5, x6, x7, x8] rfl).put 2 v2 #[v0, v1, v2, x3, x4, x5, x6, x7, x8] rfl).put 3 v3 #[v0, v1, v2, v3, x4, x5, x6, x7, x8] rfl).put 4 v4 #[v0, v1, v2, v3, v4, x5, x6, x7, x8] rfl).put 5 v5 #[v0, v1, v2, v3, v4, v5, x6, x7, x8] rfl).put 6 v6 #[v0, v1, v2, v3, v4, v5, v6, x7, x8] rfl).put 7 v7 #[v0, v1, v2, v3, v4, v5, v6, v7, x8] rfl).put 8 v8 #[v0, v1, v2, v3, v4, v5, v6, v7, v8] rfl
theorem grown9 {w : World} {g : Nat} (v0 v1 v2 v3 v4 v5 v6 v7 v8 : Value) :
    w.grownBy (((((((((w.setCell ⟨g, 0, none⟩ v0).setCell ⟨g, 1, none⟩ v1).setCell ⟨g, 2, none⟩ v2).setCell ⟨g, 3, none⟩ v3).setCell ⟨g, 4, none⟩ v4).setCell ⟨g, 5, none⟩ v5).setCell ⟨g, 6, none⟩ v6).setCell ⟨g, 7, none⟩ v7).setCell ⟨g, 8, none⟩ v8) (some g) :=
  grown_put (grown_put (grown_put (grown_put (grown_put (grown_put (grown_put (grown_put (grown_put (grown_of (Below.refl _ _) _) _ _) _ _) _ _) _ _) _ _) _ _) _ _) _ _) _ _
theorem Own.ne {α : Type} {enc : α → List Value} {c : Nat} {e : TypeId} {base : Nat} {w : World} {A : Option Addr} {n cap : Nat} {xs : List α} (h : Own enc c e base w A n cap xs) {k : Nat} (hk : k < base) : A.map (·.block) = none ∨ A.map (·.block) ≠ some k := by
  rcases h.2.2 with ⟨hv, _⟩ | ⟨g, cp, cur, hv, hbg, _⟩
  · injection hv with h1
    subst h1
    exact .inl rfl
  · injection hv with h1
    subst h1
    refine .inr ?_
    simp
    omega
theorem Own.ge {α : Type} {enc : α → List Value} {c : Nat} {e : TypeId} {base : Nat} {w : World} {A : Option Addr} {n cap : Nat} {xs : List α} (h : Own enc c e base w A n cap xs) {k : Nat} (hk : A.map (·.block) = some k) : base ≤ k := by
  rcases h.2.2 with ⟨hv, _⟩ | ⟨g, cp, cur, hv, hbg, _⟩
  · injection hv with h1
    subst h1
    cases hk
  · injection hv with h1
    subst h1
    simp at hk
    omega
theorem LA.alloc {w W : World} {A : Option Addr} {n cap : Nat} {ml mh t0 u0 t1 u1 t2 u2 : Int} (h : LA w W A n cap ml mh t0 u0 t1 u1 t2 u2) (o : Obj) : LA w (W.alloc o) A n cap ml mh t0 u0 t1 u1 t2 u2 :=
  ⟨h.1.alloc o, h.2.alloc h.2.size o⟩
theorem LA.drew {w W : World} {A : Option Addr} {n cap : Nat} {ml mh t0 u0 t1 u1 t2 u2 : Int} (h : LA w W A n cap ml mh t0 u0 t1 u1 t2 u2) : LA w W.drew A n cap ml mh t0 u0 t1 u1 t2 u2 := ⟨h.1.drew, h.2.drew⟩
/-- And the copy of the recipe, with the copied lots. -/
def LQ (w W : World) (l : List LotP) (A : Option Addr) (n cap : Nat) (ml mh t0 u0 t1 u1 t2 u2 : Int) (g : Nat) (A' : Option Addr) (cap' : Nat) : Prop :=
  LA w W A n cap ml mh t0 u0 t1 u1 t2 u2 ∧ Bk W g 28 #[.slice A' n cap', .int .i64 ml, .int .i64 mh, .int .i64 t0, .int .i64 u0, .int .i64 t1, .int .i64 u1, .int .i64 t2, .int .i64 u2] ∧ Sl eLot 9 W W.heap.size A' n l
theorem LQ.below {w W W' : World} {l : List LotP} {A : Option Addr} {n cap : Nat} {ml mh t0 u0 t1 u1 t2 u2 : Int} {g : Nat} {A' : Option Addr} {cap' : Nat} (h : LQ w W l A n cap ml mh t0 u0 t1 u1 t2 u2 g A' cap') (hb : Below W.heap.size W W') : LQ w W' l A n cap ml mh t0 u0 t1 u1 t2 u2 g A' cap' :=
  ⟨h.1.below hb, h.2.1.below hb h.2.1.lt, (h.2.2.below hb).more hb.size⟩

theorem LQ.q9 {w W : World} {l : List LotP} {A : Option Addr} {n cap : Nat} {ml mh t0 u0 t1 u1 t2 u2 : Int} {g : Nat} {A' : Option Addr} {cap' : Nat} (h : LQ w W l A n cap ml mh t0 u0 t1 u1 t2 u2 g A' cap') {W' : World} (hb : Below W.heap.size W W') : W'.cell? ⟨g, 0, none⟩ = some (.slice A' n cap') ∧ W'.cell? ⟨g, 1, none⟩ = some (.int .i64 ml) ∧ W'.cell? ⟨g, 2, none⟩ = some (.int .i64 mh) ∧ W'.cell? ⟨g, 3, none⟩ = some (.int .i64 t0) ∧ W'.cell? ⟨g, 4, none⟩ = some (.int .i64 u0) ∧ W'.cell? ⟨g, 5, none⟩ = some (.int .i64 t1) ∧ W'.cell? ⟨g, 6, none⟩ = some (.int .i64 u1) ∧ W'.cell? ⟨g, 7, none⟩ = some (.int .i64 t2) ∧ W'.cell? ⟨g, 8, none⟩ = some (.int .i64 u2) := (h.2.1.below hb h.2.1.lt).recipe
theorem ba {a W : World} {o : Obj} (h : Below a.heap.size a W) : Below a.heap.size a (W.alloc o) := h.alloc h.size o
theorem thru {a W W' : World} (h : Below a.heap.size a W) (hb : Below W.heap.size W W') : Below a.heap.size a W' := h.trans (hb.mono h.size)
theorem bdr {a W : World} (h : Below a.heap.size a W) : Below a.heap.size a W.drew := h.drew
theorem bs {a W : World} {p : Addr} {u : Value} (h : Below a.heap.size a W) (hp : a.heap.size ≤ p.block) : Below a.heap.size a (W.setCell p u) := h.setCell hp u
theorem Bk.put7 {w : World} {g : Nat} {t : TypeId} {m a0 b0 a1 b1 a2 b2 : Int} (h : Bk w g t (cP m a0 b0 a1 b1 a2 b2)) (v0 v1 v2 v3 v4 v5 v6 : Int) :
    Bk (((((((w.setCell ⟨g, 0, none⟩ (.int .i64 v0)).setCell ⟨g, 1, none⟩ (.int .i64 v1)).setCell ⟨g, 2, none⟩ (.int .i64 v2)).setCell ⟨g, 3, none⟩ (.int .i64 v3)).setCell ⟨g, 4, none⟩ (.int .i64 v4)).setCell ⟨g, 5, none⟩ (.int .i64 v5)).setCell ⟨g, 6, none⟩ (.int .i64 v6)) g t (cP v0 v1 v2 v3 v4 v5 v6) :=
  ((((((h.put 0 _ (cP v0 a0 b0 a1 b1 a2 b2) rfl).put 1 _ (cP v0 v1 b0 a1 b1 a2 b2) rfl).put 2 _ (cP v0 v1 v2 a1 b1 a2 b2) rfl).put 3 _ (cP v0 v1 v2 v3 b1 a2 b2) rfl).put 4 _ (cP v0 v1 v2 v3 v4 a2 b2) rfl).put 5 _ (cP v0 v1 v2 v3 v4 v5 b2) rfl).put 6 _ (cP v0 v1 v2 v3 v4 v5 v6) rfl
theorem sum1_map (f g : LotP → Int) (z : List (LotP × Int)) : sum1 (z.map fun p => (f p.1 * p.2, g p.1 * p.2)) = sF f z := by
  unfold sum1 sF
  rw [List.map_map]
  exact congrArg List.sum (List.map_congr_left fun p _ => Int.mul_comm _ _)
theorem sum2_map (f g : LotP → Int) (z : List (LotP × Int)) : sum2 (z.map fun p => (f p.1 * p.2, g p.1 * p.2)) = sF g z := by
  unfold sum2 sF
  rw [List.map_map]
  exact congrArg List.sum (List.map_congr_left fun p _ => Int.mul_comm _ _)
theorem sm_map (f g : LotP → Int) (hfg : ∀ x, lotB x = true → 0 ≤ f x ∧ f x ≤ g x ∧ g x ≤ 100000000) {z : List (LotP × Int)} (hz : okZ z) : ∀ p ∈ z.map fun p => (f p.1 * p.2, g p.1 * p.2), smR p := by
  intro p hp
  obtain ⟨q, hq, rfl⟩ := List.mem_map.1 hp
  obtain ⟨h1, h2, h3⟩ := hz.2 q hq
  obtain ⟨h4, h5, h6⟩ := hfg _ h1
  exact ⟨Int.mul_nonneg h4 h2, Int.mul_le_mul_of_nonneg_right h5 h2, Int.le_trans (Int.mul_le_mul h6 h3 h2 (by omega)) (by decide)⟩
theorem cmpI_lt {a b : Int} (h : a < b) : cmpI a b < 0 := by unfold cmpI; rw [if_pos h]; omega
theorem cmpI_ge {a b : Int} (h : ¬ a < b) : 0 ≤ cmpI a b := by unfold cmpI; rw [if_neg h]; split <;> omega
theorem cmpI_gt {a b : Int} (h : b < a) : 0 < cmpI a b := by unfold cmpI; rw [if_neg (by omega), if_neg (by omega)]; omega
theorem cmpI_le {a b : Int} (h : ¬ b < a) : cmpI a b ≤ 0 := by unfold cmpI; split; omega; rw [if_pos (by omega)]; omega
/-- And the pile. -/
def LP (w W : World) (l : List LotP) (A : Option Addr) (n cap : Nat) (ml mh t0 u0 t1 u1 t2 u2 : Int) (g : Nat) (A' : Option Addr) (cap' : Nat) (g6 : Nat) (m x0 y0 x1 y1 x2 y2 : Int) : Prop :=
  LQ w W l A n cap ml mh t0 u0 t1 u1 t2 u2 g A' cap' ∧ Bk W g6 33 (cP m x0 y0 x1 y1 x2 y2)
theorem LP.below {w W W' : World} {l : List LotP} {A : Option Addr} {n cap : Nat} {ml mh t0 u0 t1 u1 t2 u2 : Int} {g : Nat} {A' : Option Addr} {cap' : Nat} {g6 : Nat} {m x0 y0 x1 y1 x2 y2 : Int} (h : LP w W l A n cap ml mh t0 u0 t1 u1 t2 u2 g A' cap' g6 m x0 y0 x1 y1 x2 y2) (hb : Below W.heap.size W W') : LP w W' l A n cap ml mh t0 u0 t1 u1 t2 u2 g A' cap' g6 m x0 y0 x1 y1 x2 y2 :=
  ⟨h.1.below hb, h.2.below hb h.2.lt⟩
theorem LP.bel {w W : World} {l : List LotP} {A : Option Addr} {n cap : Nat} {ml mh t0 u0 t1 u1 t2 u2 : Int} {g : Nat} {A' : Option Addr} {cap' : Nat} {g6 : Nat} {m x0 y0 x1 y1 x2 y2 : Int} (h : LP w W l A n cap ml mh t0 u0 t1 u1 t2 u2 g A' cap' g6 m x0 y0 x1 y1 x2 y2) : Below w.heap.size w W := h.1.1.2
/-- The first condition that is not true, from the last one on: three species, and whether the greatest and the least one are broken. -/
def fstG (i : Int) (hi lo : Prop) [Decidable hi] [Decidable lo] (v : Int) : Int := if hi then 2 + 2 * i else if lo then 3 + 2 * i else v
def fstF (t0 u0 t1 u1 t2 u2 m x0 y0 x1 y1 x2 y2 s : Int) : Int :=
  if s = 2 then -1 else if s = 1 then fstG 2 (u2 * m < y2 * 1000000) (x2 * 1000000 < t2 * m) (-1)
  else if s = 0 then fstG 1 (u1 * m < y1 * 1000000) (x1 * 1000000 < t1 * m) (fstG 2 (u2 * m < y2 * 1000000) (x2 * 1000000 < t2 * m) (-1))
  else fstG 0 (u0 * m < y0 * 1000000) (x0 * 1000000 < t0 * m) (fstG 1 (u1 * m < y1 * 1000000) (x1 * 1000000 < t1 * m) (fstG 2 (u2 * m < y2 * 1000000) (x2 * 1000000 < t2 * m) (-1)))
/-- One of three, and of a lot. -/
def p3 (a b c : Int) (s : Nat) : Int := if s = 0 then a else if s = 1 then b else c
def LotP.lo (s : Nat) (x : LotP) : Int := p3 x.l0 x.l1 x.l2 s
def LotP.hi (s : Nat) (x : LotP) : Int := p3 x.h0 x.h1 x.h2 s
theorem lot_at {w : World} {b o s : Nat} {x : LotP} (hs : s < 3) (e2 : w.cell? ⟨b, o + 2, none⟩ = some (.int .i64 x.l0)) (e3 : w.cell? ⟨b, o + 3, none⟩ = some (.int .i64 x.h0)) (e4 : w.cell? ⟨b, o + 4, none⟩ = some (.int .i64 x.l1)) (e5 : w.cell? ⟨b, o + 5, none⟩ = some (.int .i64 x.h1)) (e6 : w.cell? ⟨b, o + 6, none⟩ = some (.int .i64 x.l2)) (e7 : w.cell? ⟨b, o + 7, none⟩ = some (.int .i64 x.h2)) :
    w.cell? ⟨b, o + 2 + s * 2, none⟩ = some (.int .i64 (x.lo s)) ∧ w.cell? ⟨b, o + 2 + s * 2 + 1, none⟩ = some (.int .i64 (x.hi s)) := by
  rcases (by omega : s = 0 ∨ s = 1 ∨ s = 2) with rfl | rfl | rfl
  · exact ⟨e2, e3⟩
  · exact ⟨e4, e5⟩
  · exact ⟨e6, e7⟩
theorem target_at {w : World} {H s : Nat} {t : TypeId} {v0 v1 v2 : Value} {t0 u0 t1 u1 t2 u2 : Int} (hs : s < 3) (h : Bk w H t #[v0, v1, v2, .int .i64 t0, .int .i64 u0, .int .i64 t1, .int .i64 u1, .int .i64 t2, .int .i64 u2]) :
    w.cell? ⟨H, 3 + s * 2, none⟩ = some (.int .i64 (p3 t0 t1 t2 s)) ∧ w.cell? ⟨H, 3 + s * 2 + 1, none⟩ = some (.int .i64 (p3 u0 u1 u2 s)) := by
  rcases (by omega : s = 0 ∨ s = 1 ∨ s = 2) with rfl | rfl | rfl
  · exact ⟨h.cell rfl, h.cell rfl⟩
  · exact ⟨h.cell rfl, h.cell rfl⟩
  · exact ⟨h.cell rfl, h.cell rfl⟩
theorem pile_at {w : World} {H s : Nat} {t : TypeId} {m x0 y0 x1 y1 x2 y2 : Int} (hs : s < 3) (h : Bk w H t (cP m x0 y0 x1 y1 x2 y2)) :
    w.cell? ⟨H, 1 + s * 2, none⟩ = some (.int .i64 (p3 x0 x1 x2 s)) ∧ w.cell? ⟨H, 1 + s * 2 + 1, none⟩ = some (.int .i64 (p3 y0 y1 y2 s)) := by
  rcases (by omega : s = 0 ∨ s = 1 ∨ s = 2) with rfl | rfl | rfl
  · exact ⟨h.cell rfl, h.cell rfl⟩
  · exact ⟨h.cell rfl, h.cell rfl⟩
  · exact ⟨h.cell rfl, h.cell rfl⟩
theorem lot_p3 (s : Nat) (x : LotP) (hx : lotB x = true) : 0 ≤ x.lo s ∧ x.lo s ≤ x.hi s ∧ x.hi s ≤ 100000000 := by
  have := lotB_t.1 hx
  unfold LotP.lo LotP.hi p3
  split
  · omega
  · split <;> omega
theorem sF_p3 {l : List LotP} {ns : List Int} {m x0 y0 x1 y1 x2 y2 : Int} {s : Nat} (hs : s < 3) (h : m = sF LotP.mass (l.zip ns) ∧ x0 = sF LotP.l0 (l.zip ns) ∧ y0 = sF LotP.h0 (l.zip ns) ∧ x1 = sF LotP.l1 (l.zip ns) ∧ y1 = sF LotP.h1 (l.zip ns) ∧ x2 = sF LotP.l2 (l.zip ns) ∧ y2 = sF LotP.h2 (l.zip ns)) :
    sF (LotP.lo s) (l.zip ns) = p3 x0 x1 x2 s ∧ sF (LotP.hi s) (l.zip ns) = p3 y0 y1 y2 s := by
  obtain ⟨-, h0, h1, h2, h3, h4, h5⟩ := h
  rcases (by omega : s = 0 ∨ s = 1 ∨ s = 2) with rfl | rfl | rfl
  · exact ⟨h0.symm, h1.symm⟩
  · exact ⟨h2.symm, h3.symm⟩
  · exact ⟨h4.symm, h5.symm⟩
theorem bd_p3 {ml mh t0 u0 t1 u1 t2 u2 m x0 y0 x1 y1 x2 y2 : Int} {s : Nat} (hs : s < 3) (h : Bd ml mh t0 u0 t1 u1 t2 u2 m x0 y0 x1 y1 x2 y2) :
    (0 ≤ p3 t0 t1 t2 s ∧ p3 t0 t1 t2 s ≤ p3 u0 u1 u2 s ∧ p3 u0 u1 u2 s ≤ 100000000) ∧ (0 ≤ p3 x0 x1 x2 s ∧ p3 x0 x1 x2 s ≤ 1000000000000) ∧ (0 ≤ p3 y0 y1 y2 s ∧ p3 y0 y1 y2 s ≤ 1000000000000) := by
  rcases (by omega : s = 0 ∨ s = 1 ∨ s = 2) with rfl | rfl | rfl
  · exact ⟨h.h0, h.ha0, h.hb0⟩
  · exact ⟨h.h1, h.ha1, h.hb1⟩
  · exact ⟨h.h2, h.ha2, h.hb2⟩
theorem fstF_step {t0 u0 t1 u1 t2 u2 m x0 y0 x1 y1 x2 y2 : Int} {s : Nat} (hs : s < 3) :
    fstF t0 u0 t1 u1 t2 u2 m x0 y0 x1 y1 x2 y2 ((s : Int) - 1) = fstG (s : Int) (p3 u0 u1 u2 s * m < p3 y0 y1 y2 s * 1000000) (p3 x0 x1 x2 s * 1000000 < p3 t0 t1 t2 s * m) (fstF t0 u0 t1 u1 t2 u2 m x0 y0 x1 y1 x2 y2 (s : Int)) := by
  rcases (by omega : s = 0 ∨ s = 1 ∨ s = 2) with rfl | rfl | rfl <;> rfl
/-- The first condition that is not true, of all. -/
def lastF (ml mh t0 u0 t1 u1 t2 u2 m x0 y0 x1 y1 x2 y2 : Int) : Int := if m < ml then 0 else if mh < m then 1 else fstF t0 u0 t1 u1 t2 u2 m x0 y0 x1 y1 x2 y2 (-1)
theorem lastF_eq {ml mh t0 u0 t1 u1 t2 u2 m x0 y0 x1 y1 x2 y2 : Int} (_ : Bd ml mh t0 u0 t1 u1 t2 u2 m x0 y0 x1 y1 x2 y2) :
    idxF (fun x => decide (x < 0)) (marg ml mh t0 u0 t1 u1 t2 u2 m x0 y0 x1 y1 x2 y2) = lastF ml mh t0 u0 t1 u1 t2 u2 m x0 y0 x1 y1 x2 y2 := by
  have hf : fstF t0 u0 t1 u1 t2 u2 m x0 y0 x1 y1 x2 y2 (-1) = fstG 0 (u0 * m < y0 * 1000000) (x0 * 1000000 < t0 * m) (fstG 1 (u1 * m < y1 * 1000000) (x1 * 1000000 < t1 * m) (fstG 2 (u2 * m < y2 * 1000000) (x2 * 1000000 < t2 * m) (-1))) := rfl
  have e0 : (-ml + m < 0) = (m < ml) := by apply propext; omega
  have e1 : (mh + -m < 0) = (mh < m) := by apply propext; omega
  have e2 : (u0 * m - 1000000 * y0 < 0) = (u0 * m < y0 * 1000000) := by apply propext; omega
  have e3 : (1000000 * x0 - t0 * m < 0) = (x0 * 1000000 < t0 * m) := by apply propext; omega
  have e4 : (u1 * m - 1000000 * y1 < 0) = (u1 * m < y1 * 1000000) := by apply propext; omega
  have e5 : (1000000 * x1 - t1 * m < 0) = (x1 * 1000000 < t1 * m) := by apply propext; omega
  have e6 : (u2 * m - 1000000 * y2 < 0) = (u2 * m < y2 * 1000000) := by apply propext; omega
  have e7 : (1000000 * x2 - t2 * m < 0) = (x2 * 1000000 < t2 * m) := by apply propext; omega
  unfold idxF marg lastF
  rw [hf]
  unfold fstG
  simp only [List.findIdx?_cons, List.findIdx?_nil, e0, e1, e2, e3, e4, e5, e6, e7]
  by_cases h0 : m < ml
  · simp [h0]
  by_cases h1 : mh < m
  · simp [h0, h1]
  by_cases h2 : u0 * m < y0 * 1000000
  · simp [h0, h1, h2]
  by_cases h3 : x0 * 1000000 < t0 * m
  · simp [h0, h1, h2, h3]
  by_cases h4 : u1 * m < y1 * 1000000
  · simp [h0, h1, h2, h3, h4]
  by_cases h5 : x1 * 1000000 < t1 * m
  · simp [h0, h1, h2, h3, h4, h5]
  by_cases h6 : u2 * m < y2 * 1000000
  · simp [h0, h1, h2, h3, h4, h5, h6]
  by_cases h7 : x2 * 1000000 < t2 * m
  · simp [h0, h1, h2, h3, h4, h5, h6, h7]
  simp [h0, h1, h2, h3, h4, h5, h6, h7]
/-- What Weigh hands back: the pile and zero, or nothing and an error. -/
def WD (l : List LotP) (ns : List Int) (ml mh t0 u0 t1 u1 t2 u2 m x0 y0 x1 y1 x2 y2 r : Int) : Prop :=
  (chkF l ml mh t0 u0 t1 u1 t2 u2 = 0 ∧ fitC l ns = true ∧ r = 0 ∧ m = sF LotP.mass (l.zip ns) ∧ x0 = sF LotP.l0 (l.zip ns) ∧ y0 = sF LotP.h0 (l.zip ns) ∧ x1 = sF LotP.l1 (l.zip ns) ∧ y1 = sF LotP.h1 (l.zip ns) ∧ x2 = sF LotP.l2 (l.zip ns) ∧ y2 = sF LotP.h2 (l.zip ns)) ∨
  (r ≠ 0 ∧ m = 0 ∧ x0 = 0 ∧ y0 = 0 ∧ x1 = 0 ∧ y1 = 0 ∧ x2 = 0 ∧ y2 = 0)
theorem Weighed.wd {l : List LotP} {ns : List Int} {ml mh t0 u0 t1 u1 t2 u2 : Int} {e : Ending} (h : Weighed l ns ml mh t0 u0 t1 u1 t2 u2 e) :
    ∃ m x0 y0 x1 y1 x2 y2 r : Int, e = .returned (.tuple #[.agg #[.int .i64 m, .int .i64 x0, .int .i64 y0, .int .i64 x1, .int .i64 y1, .int .i64 x2, .int .i64 y2], .int .i64 r]) ∧ WD l ns ml mh t0 u0 t1 u1 t2 u2 m x0 y0 x1 y1 x2 y2 r := by
  rcases h with ⟨h1, h2, rfl⟩ | ⟨-, r, hr, rfl⟩
  · exact ⟨_, _, _, _, _, _, _, _, rfl, .inl ⟨h1, h2, rfl, rfl, rfl, rfl, rfl, rfl, rfl, rfl⟩⟩
  · exact ⟨_, _, _, _, _, _, _, _, rfl, .inr ⟨hr, rfl, rfl, rfl, rfl, rfl, rfl, rfl⟩⟩

/-- A function's statements from the n-th on. -/
def seqSkip : Nat → Code → Code
  | 0, c => c
  | n + 1, .seq _ b => seqSkip n b
  | _, c => c

set_option maxRecDepth 100000 in
set_option maxHeartbeats 16000000 in
theorem law_rest (A : Option Addr) (n cap B : Nat) (l : List LotP) (A2 : Option Addr) (n2 cap2 B2 : Nat) (ns : List Int) (ml mh t0 u0 t1 u1 t2 u2 : Int) (w : World) (h : Sl eLot 9 w B A n l) (hB : B ≤ w.heap.size)
    (h2 : Sl eI 1 w B2 A2 n2 ns) (hB2 : B2 ≤ w.heap.size) (g1 : ¬ 10 < n) (g2 : ¬ 10 < n2) (wc : World) (g : Nat) (A' : Option Addr) (cap' g6 : Nat) (m x0 y0 x1 y1 x2 y2 r : Int)
    (lq6 : LQ w wc l A n cap ml mh t0 u0 t1 u1 t2 u2 g A' cap') (kp6 : Bk wc g6 33 (cP m x0 y0 x1 y1 x2 y2)) (wd : WD l ns ml mh t0 u0 t1 u1 t2 u2 m x0 y0 x1 y1 x2 y2 r)
    (u25 u26 u27 u28 u29 u30 u31 u32 u33 u34 u35 u36 u37 u38 u39 u40 u41 u42 u43 u44 u45 u46 u47 u48 u49 u50 u51 u52 u53 u54 u55 u56 u57 u58 u59 u60 u61 u62 u63 u64 u65 u66 u67 u68 u69 u70 u71 u72 u73 u74 u75 u76 u77 u78 u79 u80 u81 u82 u83 u84 u85 u86 u87 u88 u89 u90 u91 u92 u93 u94 u95 u96 u97 u98 u99 u100 u101 u102 u103 u104 u105 u106 u107 u108 u109 u110 u111 u112 u113 u114 u115 u116 u117 u118 u119 u120 u121 u122 u123 u124 u125 u126 u127 u128 u129 u130 u131 u132 u133 u134 u135 u136 u137 u138 u139 u140 u141 u142 u143 u144 u145 u146 u147 u148 u149 u150 u151 u152 u153 u154 u155 u156 u157 u158 u159 u160 u161 u162 u163 u164 u165 u166 u167 u168 u169 u170 u171 u172 u173 u174 u175 u176 u177 u178 u179 u180 u181 u182 u183 u184 u185 u186 u187 u188 u189 u190 u191 u192 u193 u194 u195 u196 u197 u198 u199 u200 u201 u202 u203 u204 u205 u206 u207 u208 u209 u210 u211 u212 u213 u214 u215 u216 u217 u218 u219 : Value) :
    Code.wp Try.prog (seqSkip 4 (Try.f3.body.getD .skip)) (bodyPost Try.prog Try.f3 fun e w' => e = .returned (.bool true) ∧ Below w.heap.size w w')
      { tmps := #[.agg #[.slice A n cap, .int .i64 ml, .int .i64 mh, .int .i64 t0, .int .i64 u0, .int .i64 t1, .int .i64 u1, .int .i64 t2, .int .i64 u2], .slice A2 n2 cap2, .pointer (some ⟨w.heap.size, 0, none⟩), undef, .bool false, .pointer (some ⟨g, 0, none⟩), .pointer (some ⟨g6, 0, none⟩), .int .i64 r, undef, undef, undef, undef, undef, undef, undef, undef, undef, undef, undef, undef, undef, undef, undef, undef, undef, u25, u26, u27, u28, u29, u30, u31, u32, u33, u34, u35, u36, u37, u38, u39, u40, u41, u42, u43, u44, u45, u46, u47, u48, u49, u50, u51, u52, u53, u54, u55, u56, u57, u58, u59, u60, u61, u62, u63, u64, u65, u66, u67, u68, u69, u70, u71, u72, u73, u74, u75, u76, u77, u78, u79, u80, u81, u82, u83, u84, u85, u86, u87, u88, u89, u90, u91, u92, u93, u94, u95, u96, u97, u98, u99, u100, u101, u102, u103, u104, u105, u106, u107, u108, u109, u110, u111, u112, u113, u114, u115, u116, u117, u118, u119, u120, u121, u122, u123, u124, u125, u126, u127, u128, u129, u130, u131, u132, u133, u134, u135, u136, u137, u138, u139, u140, u141, u142, u143, u144, u145, u146, u147, u148, u149, u150, u151, u152, u153, u154, u155, u156, u157, u158, u159, u160, u161, u162, u163, u164, u165, u166, u167, u168, u169, u170, u171, u172, u173, u174, u175, u176, u177, u178, u179, u180, u181, u182, u183, u184, u185, u186, u187, u188, u189, u190, u191, u192, u193, u194, u195, u196, u197, u198, u199, u200, u201, u202, u203, u204, u205, u206, u207, u208, u209, u210, u211, u212, u213, u214, u215, u216, u217, u218, u219], defers := [] } wc := by
  conv => arg 2; whnf
  have hlen := h.len
  have hlen2 := h2.len
  have WE := Lib.hid (fun W (hb : Below w.heap.size w W) => show Calls Try.prog 4 #[] W fun e w' => e = .returned (.bool true) ∧ Below w.heap.size w w' from
    (weighed_any W).mono fun e w' hx => ⟨hx.1, hb.trans (hx.2.mono hb.size)⟩)
  rcases wd with ⟨hc, hf, rfl, em, ex0, ey0, ex1, ey1, ex2, ey2⟩ | ⟨hr, rfl, rfl, rfl, rfl, rfl, rfl, rfl⟩
  · have hnn : n2 = n := by have := fitC_len hf; omega
    subst hnn
    have lp : LP w wc l A n2 cap ml mh t0 u0 t1 u1 t2 u2 g A' cap' g6 m x0 y0 x1 y1 x2 y2 := ⟨lq6, kp6⟩
    have HZ := Lib.hid (okZ_of (chkF_zero hc).1 (chkF_zero hc).2.1 hf)
    have LPH := Lib.hid lp
    have EQ := Lib.hid (And.intro em (And.intro ex0 (And.intro ey0 (And.intro ex1 (And.intro ey1 (And.intro ex2 ey2))))))
    have HC := Lib.hid hc
    have HF := Lib.hid hf
    have c0 : wc.cell? ⟨w.heap.size, 0, none⟩ = some (.slice A n2 cap) := lq6.1.1.cell rfl
    clear lq6 kp6 lp hc hf em ex0 ey0 ex1 ey1 ex2 ey2 hlen hlen2 c0
    have c0 : wc.cell? ⟨w.heap.size, 0, none⟩ = some (.slice A n2 cap) := LPH.out.1.1.1.cell rfl
    go_wp2_with fail
    clear c0
    go_loopw [8, 9] (fun s8 s9 wr => ∃ k : Nat, k ≤ n2 ∧ s9 = .int .i64 k ∧ s8 = .int .i64 (sF LotP.mass ((l.zip ns).take k)) ∧ LP w wr l A n2 cap ml mh t0 u0 t1 u1 t2 u2 g A' cap' g6 m x0 y0 x1 y1 x2 y2) (fun _ i _ => n2 - (intOf i).toNat)
    case atStart => exact ⟨0, Nat.zero_le _, rfl, rfl, LPH.out⟩
    case round =>
      obtain ⟨k, hk, rfl, rfl, lp⟩ := hrel
      clear LPH
      have LPH := Lib.hid lp
      by_cases hlt : k < n2
      · obtain ⟨q, hq⟩ := h2.get hlt
        obtain ⟨b2, off2, rfl, hb2, d1⟩ := (h2.below (lp.bel.mono hB2)).at1 hq
        obtain ⟨x, hx⟩ := h.get hlt
        obtain ⟨b, off, rfl, hb, e0, e1, e2, e3, e4, e5, e6, e7, e8⟩ := (h.below (lp.bel.mono hB)).atLot hx
        have c0 : wr.cell? ⟨w.heap.size, 0, none⟩ = some (.slice (some ⟨b, off, none⟩) n2 cap) := lp.1.1.1.cell rfl
        have hzk : (l.zip ns)[k]? = some (x, q) := by rw [List.getElem?_zip_eq_some]; exact ⟨hx, hq⟩
        have HZK := Lib.hid hzk
        have hok := HZ.out.2 _ (List.mem_of_getElem? hzk)
        have S0 := (HZ.out.take k).sm _ f_mass
        have T0 := term_bd hok.2.1 hok.2.2 (f_mass x hok.1).1 (f_mass x hok.1).2
        clear hok hzk hx hq lp e0 e2 e3 e4 e5 e6 e7 e8
        unfold smP at S0
        have SN := Lib.hid (sF_snoc LotP.mass ((l.zip ns).take k) x q)
        generalize sF LotP.mass ((l.zip ns).take k) = sm at *
        generalize hqm : q * x.mass = qm at *
        go_wp2
        go_quiet (fail)
        go_wp2
        go_roundw
        case rel => exact ⟨k + 1, by omega, by go_num, by rw [take_snoc HZK.out, SN.out, ← hqm], LPH.out.below (below_drewN (Below.refl _ _) _)⟩
        case measure => simp [intOf]; omega
      · have hM : sF LotP.mass ((l.zip ns).take k) = m := by
          rw [List.take_of_length_le (by have := h.len; simp; omega)]
          exact EQ.out.1.symm
        have bd := Bd.of HC.out HF.out
        rw [← EQ.out.1, ← EQ.out.2.1, ← EQ.out.2.2.1, ← EQ.out.2.2.2.1, ← EQ.out.2.2.2.2.1, ← EQ.out.2.2.2.2.2.1, ← EQ.out.2.2.2.2.2.2] at bd
        rw [hM]
        have BD := Lib.hid bd
        have hm0 := bd.hM
        clear hM lp bd
        go_wp2_with fail
        go_loopw [10, 11] (fun s10 s11 wr => ∃ s : Int, -1 ≤ s ∧ s ≤ 2 ∧ s11 = .int .i64 s ∧ s10 = .int .i64 (fstF t0 u0 t1 u1 t2 u2 m x0 y0 x1 y1 x2 y2 s) ∧ LP w wr l A n2 cap ml mh t0 u0 t1 u1 t2 u2 g A' cap' g6 m x0 y0 x1 y1 x2 y2) (fun _ i _ => (intOf i + 1).toNat)
        case atStart => exact ⟨2, by omega, by omega, rfl, rfl, LPH.out⟩
        case round =>
          obtain ⟨s, hs0, hs2, rfl, rfl, lp⟩ := hrel
          clear LPH
          have LPH := Lib.hid lp
          generalize hwo : wr = wo at *
          clear hwo
          by_cases hsn0 : 0 ≤ s
          · obtain ⟨sN, rfl⟩ := Int.eq_ofNat_of_zero_le hsn0
            have hs3 : sN < 3 := by omega
            have hsi : (sN : Int) < 3 := by omega
            have ownI : Own eII 2 24 wo.heap.size (wo.alloc (.cells #[] 24)) (some ⟨wo.heap.size, 0, none⟩) 0 0 [] := Own.lit enc2 (Nat.le_refl _) (Nat.zero_le _) rfl
            have OWI := Lib.hid ownI
            clear ownI lp
            go_wp2_with fail
            go_loopw [12, 13] (fun s12 s13 wi => ∃ (j cap3 : Nat) (A3 : Option Addr), j ≤ n2 ∧ s13 = .int .i64 j ∧ s12 = .slice A3 j cap3 ∧ Own eII 2 24 wo.heap.size wi A3 j cap3 (((l.zip ns).take j).map fun p => ((p.1.lo sN) * p.2, (p.1.hi sN) * p.2)) ∧ Below wo.heap.size wo wi) (fun _ i _ => n2 - (intOf i).toNat)
            case atStart => exact ⟨0, 0, _, Nat.zero_le _, rfl, rfl, OWI.out, ba (Below.refl _ _)⟩
            case round =>
              obtain ⟨j, cap3, A3, hj, rfl, rfl, own, hbo⟩ := hrel
              have OWN := Lib.hid own
              have lp := LPH.out.below hbo
              generalize hwi : wr = wi at *
              clear hwi own
              by_cases hlt : j < n2
              · skip
                obtain ⟨q, hq⟩ := h2.get hlt
                obtain ⟨b2, off2, rfl, hb2, d1⟩ := (h2.below (lp.bel.mono hB2)).at1 hq
                obtain ⟨x, hx⟩ := h.get hlt
                obtain ⟨b, off, rfl, hb, e0, e1, e2, e3, e4, e5, e6, e7, e8⟩ := (h.below (lp.bel.mono hB)).atLot hx
                have c0 : wi.cell? ⟨w.heap.size, 0, none⟩ = some (.slice (some ⟨b, off, none⟩) n2 cap) := lp.1.1.1.cell rfl
                have hzk : (l.zip ns)[j]? = some (x, q) := by rw [List.getElem?_zip_eq_some]; exact ⟨hx, hq⟩
                have HZK := Lib.hid hzk
                have hok := HZ.out.2 _ (List.mem_of_getElem? hzk)
                simp only at hok
                have hlB := lotB_t.1 hok.1
                have SC := Lib.hid (scale_any (x.lo sN) (x.hi sN) q (lot_p3 sN x hok.1).1 (lot_p3 sN x hok.1).2.1 (lot_p3 sN x hok.1).2.2 hok.2.1 hok.2.2)
                have lbi : Below wi.heap.size wi wi := Below.refl _ _
                have S0 : wi.cell? ⟨w.heap.size, 0, none⟩ = some (.slice (some ⟨b, off, none⟩) n2 cap) ∧ wi.cell? ⟨b, off + j * 9 + 2 + sN * 2, none⟩ = some (.int .i64 (x.lo sN)) ∧ wi.cell? ⟨b, off + j * 9 + 2 + sN * 2 + 1, none⟩ = some (.int .i64 (x.hi sN)) ∧ wi.cell? ⟨b2, off2 + j, none⟩ = some (.int .i64 q) := ⟨c0, (lot_at hs3 e2 e3 e4 e5 e6 e7).1, (lot_at hs3 e2 e3 e4 e5 e6 e7).2, d1⟩
                have hlw : w.heap.size < wi.heap.size := lp.1.1.1.lt
                have SK := Lib.hid (fun W (hbW : Below wi.heap.size wi W) => show W.cell? ⟨w.heap.size, 0, none⟩ = some (.slice (some ⟨b, off, none⟩) n2 cap) ∧ W.cell? ⟨b, off + j * 9 + 2 + sN * 2, none⟩ = some (.int .i64 (x.lo sN)) ∧ W.cell? ⟨b, off + j * 9 + 2 + sN * 2 + 1, none⟩ = some (.int .i64 (x.hi sN)) ∧ W.cell? ⟨b2, off2 + j, none⟩ = some (.int .i64 q) from
                  ⟨(hbW.cell (p := ⟨w.heap.size, 0, none⟩) hlw).trans S0.1, (hbW.cell (p := ⟨b, off + j * 9 + 2 + sN * 2, none⟩) (show b < wi.heap.size by omega)).trans S0.2.1, (hbW.cell (p := ⟨b, off + j * 9 + 2 + sN * 2 + 1, none⟩) (show b < wi.heap.size by omega)).trans S0.2.2.1, (hbW.cell (p := ⟨b2, off2 + j, none⟩) (show b2 < wi.heap.size by omega)).trans S0.2.2.2⟩)
                clear hok hzk hx hq e0 e1 e2 e3 e4 e5 e6 e7 e8 c0 d1 S0 hlB lp
                go_wp2_with fail
                go_cut [14, 15] (fun s14 s15 wx => ∃ g14 : Nat, s14 = .pointer (some ⟨g14, 0, none⟩) ∧ s15 = .int .i64 0 ∧ Bk wx g14 24 #[.int .i64 ((x.lo sN) * q), .int .i64 ((x.hi sN) * q)] ∧ Below wi.heap.size wi wx)
                case first =>
                  go_region_held3 (fun w' => w'.cell? ⟨w.heap.size, 0, none⟩ = some (.slice (some ⟨b, off, none⟩) n2 cap) ∧ w'.cell? ⟨b, off + j * 9 + 2 + sN * 2, none⟩ = some (.int .i64 (x.lo sN)) ∧ w'.cell? ⟨b, off + j * 9 + 2 + sN * 2 + 1, none⟩ = some (.int .i64 (x.hi sN)) ∧ w'.cell? ⟨b2, off2 + j, none⟩ = some (.int .i64 q)) ((refine SK.out _ ?_; repeat (first | (with_reducible exact lb1) | (with_reducible exact lbi) | (with_reducible apply ba) | (with_reducible apply bdr) | (with_reducible refine bs ?_ (by simp <;> omega))))) (first | (go_at_call 7; (with_reducible refine (SC.out wi.drew).mono ?_); rintro e w1 ⟨rfl, hb1⟩; have lb1 := (bdr lbi).trans (hb1.mono (bdr lbi).size)) | (go_at_call 7; (with_reducible refine (SC.out (wi.alloc (.cells #[.int .i64 0, .int .i64 0] 24)).drew).mono ?_); rintro e w1 ⟨rfl, hb1⟩; have lb1 := (bdr (ba lbi)).trans (hb1.mono (bdr (ba lbi)).size); have kq := (Bk.newAt wi #[.int .i64 0, .int .i64 0] 24 wi.heap.size rfl).drew.below hb1 (by simp); have k0 : w1.cell? ⟨wi.heap.size, 0, none⟩ = some (.int .i64 0) := kq.cell rfl; have k1 : w1.cell? ⟨wi.heap.size, 1, none⟩ = some (.int .i64 0) := kq.cell rfl; have f0 := kq.frozen 0; have f1 := kq.frozen 1))
                  · have fin := ba (o := .cells #[.int .i64 ((x.lo sN) * q), .int .i64 ((x.hi sN) * q)] 24) lb1
                    have kpn := Bk.newAt w1 #[.int .i64 ((x.lo sN) * q), .int .i64 ((x.hi sN) * q)] 24 w1.heap.size rfl
                    clear hb1 lb1 lbi
                    go_wp2_with fail
                    go_meet
                    exact ⟨w1.heap.size, rfl, rfl, kpn, fin⟩
                  · have fin := (lb1.setCell (p := ⟨wi.heap.size, 0, none⟩) (Nat.le_refl _) (.int .i64 ((x.lo sN) * q))).setCell (p := ⟨wi.heap.size, 1, none⟩) (Nat.le_refl _) (.int .i64 ((x.hi sN) * q))
                    have kpn := (kq.put 0 (.int .i64 ((x.lo sN) * q)) #[.int .i64 ((x.lo sN) * q), .int .i64 0] rfl).put 1 (.int .i64 ((x.hi sN) * q)) #[.int .i64 ((x.lo sN) * q), .int .i64 ((x.hi sN) * q)] rfl
                    clear hb1 lb1 lbi kq
                    go_wp2_with fail
                    go_meet
                    exact ⟨wi.heap.size, rfl, rfl, kpn, fin⟩
                case rest =>
                  obtain ⟨g14, rfl, rfl, kx, hbx⟩ := hcut
                  generalize hwx : wc = wx at *
                  clear hwx
                  have r0 : wx.cell? ⟨g14, 0, none⟩ = some (.int .i64 ((x.lo sN) * q)) := kx.cell rfl
                  have r1 : wx.cell? ⟨g14, 1, none⟩ = some (.int .i64 ((x.hi sN) * q)) := kx.cell rfl
                  have own1 := (OWN.out.below hbx).alloc (.cells #[.int .i64 ((x.lo sN) * q), .int .i64 ((x.hi sN) * q)] 24)
                  have hsx := Sl.new enc2 wx 24 wx.heap.size rfl [((x.lo sN) * q, (x.hi sN) * q)] #[.int .i64 ((x.lo sN) * q), .int .i64 ((x.hi sN) * q)] (by simp [maxLen]) rfl
                  have hbox := ba (o := .cells #[.int .i64 ((x.lo sN) * q), .int .i64 ((x.hi sN) * q)] 24) (hbo.trans (hbx.mono hbo.size))
                  have OW1 := Lib.hid own1
                  have HSX := Lib.hid hsx
                  have HBX := Lib.hid hbox
                  have hm63 : j + 1 ≤ maxLen := by unfold maxLen; omega
                  clear own1 hsx hbox kx hbx lbi
                  go_wp2_with (at_builtin; refine wpList_append_any (base := wo.heap.size) enc2 elR rfl (.tmp 114) (.tmp 116) rfl A3 j cap3 _ rfl OW1.out (wx.heap.size + 1) (some ⟨wx.heap.size, 0, none⟩) 1 1 [((x.lo sN) * q, (x.hi sN) * q)] rfl HSX.out hm63 (by omega) HBX.out.size ?_; intro A4 cap4 w2 hown hgrow hat; have HO := Lib.hid hown; have HG := Lib.hid hgrow; clear hown hgrow hat)
                  go_roundw
                  case rel =>
                    refine ⟨j + 1, cap4, A4, by omega, by go_num, rfl, ?_, ?_⟩
                    · rw [take_snoc HZK.out, List.map_append]
                      exact HO.out
                    · exact HBX.out.grown HG.out HBX.out.size (fun k hk => OW1.out.ge hk)
                  case measure => simp [intOf]; omega
              · skip
                have hjn : j = n2 := by omega
                subst hjn
                have htk : (l.zip ns).take j = l.zip ns := List.take_of_length_le (by have := h.len; simp; omega)
                rw [htk] at OWN
                have sm1 : sum1 ((l.zip ns).map fun p => ((p.1.lo sN) * p.2, (p.1.hi sN) * p.2)) = (p3 x0 x1 x2 sN) := by rw [sum1_map (LotP.lo sN) (LotP.hi sN)]; exact (sF_p3 hs3 EQ.out).1
                have sm2 : sum2 ((l.zip ns).map fun p => ((p.1.lo sN) * p.2, (p.1.hi sN) * p.2)) = (p3 y0 y1 y2 sN) := by rw [sum2_map (LotP.lo sN) (LotP.hi sN)]; exact (sF_p3 hs3 EQ.out).2
                have SU := Lib.hid (sum_any A3 j cap3 wi.heap.size _ wi (OWN.out.sl enc2) (Nat.le_refl _) (by omega) (fun p hp => sm_map (LotP.lo sN) (LotP.hi sN) (lot_p3 sN) HZ.out p hp))
                rw [sm1, sm2] at SU
                clear sm1 sm2 htk
                have LPI := Lib.hid lp
                clear lp
                go_wp2_with fail
                refine SU.out.mono ?_
                rintro e w1 ⟨rfl, hb1⟩
                have lp := (LPI.out.below hb1).below (ba (o := .cells #[.int .i64 (p3 x0 x1 x2 sN), .int .i64 (p3 y0 y1 y2 sN)] 24) (Below.refl _ _))
                have LP1 := Lib.hid lp
                have k16 := Bk.newAt w1 #[.int .i64 (p3 x0 x1 x2 sN), .int .i64 (p3 y0 y1 y2 sN)] 24 w1.heap.size rfl
                have K16 := Lib.hid k16
                obtain ⟨⟨p0, p1, p2, p3, p4, p5, p6⟩, -⟩ := lp.2.pile
                obtain ⟨c0, c1, c2, c3, c4, c5, c6, c7, c8⟩ := lp.1.1.1.recipe
                clear hb1 lp k16 SU OWN
                go_wp2_with fail
                clear p0 p1 p2 p3 p4 p5 p6 c0 c1 c2 c3 c4 c5 c6 c7 c8
                generalize w1.alloc (.cells #[.int .i64 (p3 x0 x1 x2 sN), .int .i64 (p3 y0 y1 y2 sN)] 24) = wv at *
                generalize w1.heap.size = g16 at *
                have ST := Lib.hid (fun W (hbW : Below wv.heap.size wv W) => show W.cell? ⟨g16, 0, none⟩ = some (.int .i64 (p3 x0 x1 x2 sN)) ∧ W.cell? ⟨g16, 1, none⟩ = some (.int .i64 (p3 y0 y1 y2 sN)) ∧ W.cell? ⟨w.heap.size, 3 + sN * 2, none⟩ = some (.int .i64 (p3 t0 t1 t2 sN)) ∧ W.cell? ⟨w.heap.size, 3 + sN * 2 + 1, none⟩ = some (.int .i64 (p3 u0 u1 u2 sN)) ∧ W.cell? ⟨g6, 1 + sN * 2, none⟩ = some (.int .i64 (p3 x0 x1 x2 sN)) ∧ W.cell? ⟨g6, 1 + sN * 2 + 1, none⟩ = some (.int .i64 (p3 y0 y1 y2 sN)) from
                  ⟨(K16.out.below hbW K16.out.lt).cell rfl, (K16.out.below hbW K16.out.lt).cell rfl, (target_at hs3 (LP1.out.below hbW).1.1.1).1, (target_at hs3 (LP1.out.below hbW).1.1.1).2, (pile_at hs3 (LP1.out.below hbW).2).1, (pile_at hs3 (LP1.out.below hbW).2).2⟩)
                obtain ⟨a1, a2, a3, a4, a5, a6⟩ := ST.out wv (Below.refl _ _)
                have lbv : Below wv.heap.size wv wv := Below.refl _ _
                have hbd2 := (bd_p3 hs3 BD.out).1
                have hba2 := (bd_p3 hs3 BD.out).2.1
                have hbb2 := (bd_p3 hs3 BD.out).2.2
                have hmT := mulT hbd2.1 (by omega) hm0.1 hm0.2
                have hmU := mulT (t := (p3 u0 u1 u2 sN)) (by omega) hbd2.2.2 hm0.1 hm0.2
                by_cases hmp : 0 < m
                · have CM1 := Lib.hid (compare_any (p3 x0 x1 x2 sN) m (p3 t0 t1 t2 sN) 1000000 hba2.1 (by omega) (by omega) (by omega) hbd2.1 (by omega) (by omega) (by omega) (by omega) (by omega))
                  have CM2 := Lib.hid (compare_any (p3 y0 y1 y2 sN) m (p3 u0 u1 u2 sN) 1000000 hbb2.1 (by omega) (by omega) (by omega) (by omega) (by omega) (by omega) (by omega) (by omega) (by omega))
                  clear hmT hmU
                  have HFS := Lib.hid (show fstF t0 u0 t1 u1 t2 u2 m x0 y0 x1 y1 x2 y2 ((sN : Int) - 1) = fstG (sN : Int) ((p3 u0 u1 u2 sN) * m < (p3 y0 y1 y2 sN) * 1000000) ((p3 x0 x1 x2 sN) * 1000000 < (p3 t0 t1 t2 sN) * m) (fstF t0 u0 t1 u1 t2 u2 m x0 y0 x1 y1 x2 y2 (sN : Int)) from fstF_step hs3)
                  generalize hv0 : fstF t0 u0 t1 u1 t2 u2 m x0 y0 x1 y1 x2 y2 (sN : Int) = v0 at *
                  clear hv0
                  by_cases hA : (p3 u0 u1 u2 sN) * m < (p3 y0 y1 y2 sN) * 1000000
                  all_goals
                    by_cases hBB : (p3 x0 x1 x2 sN) * 1000000 < (p3 t0 t1 t2 sN) * m
                  all_goals
                    first | have hca := cmpI_lt hBB | have hca := cmpI_ge hBB
                    first | have hcb := cmpI_gt hA | have hcb := cmpI_le hA
                    have HFX := Lib.hid HFS.out
                    simp only [fstG, hA, hBB, if_true, if_false] at HFX
                    clear hA hBB HFS
                    generalize cmpI ((p3 x0 x1 x2 sN) * 1000000) ((p3 t0 t1 t2 sN) * m) = ca at *
                    generalize cmpI ((p3 y0 y1 y2 sN) * 1000000) ((p3 u0 u1 u2 sN) * m) = cb at *
                    first | have hcd : decide (0 ≤ ca) = false := (by simp; omega) | have hcd : decide (0 ≤ ca) = true := (by simp; omega)
                    first | have hce : decide (cb ≤ 0) = false := (by simp; omega) | have hce : decide (cb ≤ 0) = true := (by simp; omega)
                    go_quiet (fail)
                    go_wp2_with fail
                    go_quiet (fail)
                    go_wp2_with fail
                    clear a1 a2 a3 a4 a5 a6
                    go_region_held3 (fun w' => w'.cell? ⟨g16, 0, none⟩ = some (.int .i64 (p3 x0 x1 x2 sN)) ∧ w'.cell? ⟨g16, 1, none⟩ = some (.int .i64 (p3 y0 y1 y2 sN)) ∧ w'.cell? ⟨w.heap.size, 3 + sN * 2, none⟩ = some (.int .i64 (p3 t0 t1 t2 sN)) ∧ w'.cell? ⟨w.heap.size, 3 + sN * 2 + 1, none⟩ = some (.int .i64 (p3 u0 u1 u2 sN)) ∧ w'.cell? ⟨g6, 1 + sN * 2, none⟩ = some (.int .i64 (p3 x0 x1 x2 sN)) ∧ w'.cell? ⟨g6, 1 + sN * 2 + 1, none⟩ = some (.int .i64 (p3 y0 y1 y2 sN))) ((refine ST.out _ ?_; repeat (first | (with_reducible exact lb1) | (with_reducible exact lbv) | (with_reducible apply ba) | (with_reducible apply bdr) | (with_reducible refine below_drewN ?_ _)))) (first | (go_at_call 9; (with_reducible refine (CM1.out _).mono ?_); rintro e w3 ⟨rfl, hb3⟩; have lb1 : Below wv.heap.size wv w3 := thru (by repeat (first | (with_reducible exact lbv) | (with_reducible apply bdr) | (with_reducible refine below_drewN ?_ _))) hb3; clear hb3))
                    obtain ⟨a1, a2, a3, a4, a5, a6⟩ := ST.out w3 lb1
                    go_wp2_with fail
                    clear a1 a2 a3 a4 a5 a6
                    go_region_held3 (fun w' => w'.cell? ⟨g16, 0, none⟩ = some (.int .i64 (p3 x0 x1 x2 sN)) ∧ w'.cell? ⟨g16, 1, none⟩ = some (.int .i64 (p3 y0 y1 y2 sN)) ∧ w'.cell? ⟨w.heap.size, 3 + sN * 2, none⟩ = some (.int .i64 (p3 t0 t1 t2 sN)) ∧ w'.cell? ⟨w.heap.size, 3 + sN * 2 + 1, none⟩ = some (.int .i64 (p3 u0 u1 u2 sN)) ∧ w'.cell? ⟨g6, 1 + sN * 2, none⟩ = some (.int .i64 (p3 x0 x1 x2 sN)) ∧ w'.cell? ⟨g6, 1 + sN * 2 + 1, none⟩ = some (.int .i64 (p3 y0 y1 y2 sN))) ((refine ST.out _ ?_; repeat (first | (with_reducible exact lb2) | (with_reducible exact lb1) | (with_reducible apply ba) | (with_reducible apply bdr) | (with_reducible refine below_drewN ?_ _)))) (first | (go_at_call 9; (with_reducible refine (CM2.out _).mono ?_); rintro e w4 ⟨rfl, hb4⟩; have lb2 : Below wv.heap.size wv w4 := thru (by repeat (first | (with_reducible exact lb1) | (with_reducible apply bdr) | (with_reducible refine below_drewN ?_ _))) hb4; clear hb4))
                    go_wp2
                    go_roundw
                    case rel => exact ⟨(sN : Int) - 1, by omega, by omega, rfl, by (first | (rw [HFX.out]; done) | (rw [HFX.out]; go_num)), LP1.out.below lb2⟩
                    case measure => simp [intOf]
                · have hmz : m = 0 := by omega
                  clear hmT hmU a3 a4
                  have HFS := Lib.hid (show fstF t0 u0 t1 u1 t2 u2 m x0 y0 x1 y1 x2 y2 ((sN : Int) - 1) = fstG (sN : Int) ((p3 u0 u1 u2 sN) * m < (p3 y0 y1 y2 sN) * 1000000) ((p3 x0 x1 x2 sN) * 1000000 < (p3 t0 t1 t2 sN) * m) (fstF t0 u0 t1 u1 t2 u2 m x0 y0 x1 y1 x2 y2 (sN : Int)) from fstF_step hs3)
                  generalize hv0 : fstF t0 u0 t1 u1 t2 u2 m x0 y0 x1 y1 x2 y2 (sN : Int) = v0 at *
                  clear hv0
                  by_cases hy : (p3 y0 y1 y2 sN) = 0
                  · have hyb : ((p3 y0 y1 y2 sN) == 0) = true := by simpa using hy
                    have HFX := Lib.hid HFS.out
                    rw [fstG, if_neg (by rw [hmz, hy]; omega), if_neg (by rw [hmz]; omega)] at HFX
                    have HH := Lib.hid hy
                    clear hy HFS hmz
                    go_quiet (fail)
                    go_wp2_with fail
                    go_quiet (fail)
                    go_wp2
                    go_roundw
                    case rel => exact ⟨(sN : Int) - 1, by omega, by omega, rfl, by (first | (rw [HFX.out]; done) | (rw [HFX.out]; go_num)), LP1.out.below (below_drewN lbv _)⟩
                    case measure => simp [intOf]
                  · have hyb : ((p3 y0 y1 y2 sN) == 0) = false := by simpa using hy
                    have HFX := Lib.hid HFS.out
                    rw [fstG, if_pos (by rw [hmz]; omega)] at HFX
                    have HH := Lib.hid hy
                    clear hy HFS hmz
                    go_quiet (fail)
                    go_wp2_with fail
                    go_quiet (fail)
                    go_wp2
                    go_roundw
                    case rel => exact ⟨(sN : Int) - 1, by omega, by omega, rfl, by (first | (rw [HFX.out]; done) | (rw [HFX.out]; go_num)), LP1.out.below (below_drewN lbv _)⟩
                    case measure => simp [intOf]
          · obtain rfl : s = -1 := by omega
            have FT := Lib.hid (fun (W : World) (hb : Below wo.heap.size wo W) (A3 : Option Addr) (n3 cap3 : Nat) (hs : Sl eI 1 W W.heap.size A3 n3 ns) => show Calls Try.prog 10 #[.agg #[.slice A' n2 cap', .int .i64 ml, .int .i64 mh, .int .i64 t0, .int .i64 u0, .int .i64 t1, .int .i64 u1, .int .i64 t2, .int .i64 u2], .slice A3 n3 cap3] W fun e w' => e = .returned (.tuple #[.int .i64 (lastF ml mh t0 u0 t1 u1 t2 u2 m x0 y0 x1 y1 x2 y2), .int .i64 0]) ∧ Below W.heap.size W w' from
              (by
                have hx := fits_law A' n2 cap' wo.heap.size l A3 n3 cap3 W.heap.size ns ml mh t0 u0 t1 u1 t2 u2 W (LPH.out.1.2.2.below hb) hb.size (by omega) hs (Nat.le_refl _) (by have := hs.len; have := h2.len; omega) HC.out HF.out
                rw [← EQ.out.1, ← EQ.out.2.1, ← EQ.out.2.2.1, ← EQ.out.2.2.2.1, ← EQ.out.2.2.2.2.1, ← EQ.out.2.2.2.2.2.1, ← EQ.out.2.2.2.2.2.2, lastF_eq BD.out] at hx
                exact hx))
            have hsn : Sl eI 1 wo B2 A2 n2 ns := h2.below (lp.bel.mono hB2)
            have hBw : B2 ≤ wo.heap.size := Nat.le_trans hB2 lp.bel.size
            have lb : Below wo.heap.size wo wo := Below.refl _ _
            have hm63 : (0 : Nat) + n2 ≤ maxLen := by unfold maxLen; omega
            have lw1 : Below wo.heap.size wo (wo.alloc (.cells #[] 3)).drew := bdr (ba lb)
            have o1 : Own eI 1 3 wo.heap.size (wo.alloc (.cells #[] 3)).drew (some ⟨wo.heap.size, 0, none⟩) 0 0 [] := (Own.lit enc1 (Nat.le_refl _) (Nat.zero_le _) rfl).drew
            obtain ⟨c0, c1, c2, c3, c4, c5, c6, c7, c8⟩ := lp.1.1.1.recipe
            have hmlh := BD.out.hm
            clear lp c3 c4 c5 c6 c7 c8 c0
            have hcase : (m < ml ∧ ¬ mh < m ∧ lastF ml mh t0 u0 t1 u1 t2 u2 m x0 y0 x1 y1 x2 y2 = 0) ∨ (¬ m < ml ∧ mh < m ∧ lastF ml mh t0 u0 t1 u1 t2 u2 m x0 y0 x1 y1 x2 y2 = 1) ∨ (¬ m < ml ∧ ¬ mh < m ∧ lastF ml mh t0 u0 t1 u1 t2 u2 m x0 y0 x1 y1 x2 y2 = fstF t0 u0 t1 u1 t2 u2 m x0 y0 x1 y1 x2 y2 (-1)) := by
              unfold lastF
              by_cases h1 : m < ml
              · exact .inl ⟨h1, by omega, if_pos h1⟩
              · by_cases h2 : mh < m
                · exact .inr (.inl ⟨h1, h2, by rw [if_neg h1, if_pos h2]⟩)
                · exact .inr (.inr ⟨h1, h2, by rw [if_neg h1, if_neg h2]⟩)
            rcases hcase with ⟨g1, g2, hl⟩ | ⟨g1, g2, hl⟩ | ⟨g1, g2, hl⟩
            all_goals
              rw [hl] at FT
              clear hl
              try generalize fstF t0 u0 t1 u1 t2 u2 m x0 y0 x1 y1 x2 y2 (-1) = vf at *
              go_wp2_with fail
              go_region_held3 (fun w' => w'.cell? ⟨g, 0, none⟩ = some (.slice A' n2 cap') ∧ w'.cell? ⟨g, 1, none⟩ = some (.int .i64 ml) ∧ w'.cell? ⟨g, 2, none⟩ = some (.int .i64 mh) ∧ w'.cell? ⟨g, 3, none⟩ = some (.int .i64 t0) ∧ w'.cell? ⟨g, 4, none⟩ = some (.int .i64 u0) ∧ w'.cell? ⟨g, 5, none⟩ = some (.int .i64 t1) ∧ w'.cell? ⟨g, 6, none⟩ = some (.int .i64 u1) ∧ w'.cell? ⟨g, 7, none⟩ = some (.int .i64 t2) ∧ w'.cell? ⟨g, 8, none⟩ = some (.int .i64 u2)) ((refine LPH.out.1.q9 ?_; repeat (first | (with_reducible exact lb2) | (with_reducible exact lb1) | (with_reducible exact lb) | (with_reducible apply ba) | (with_reducible apply bdr)))) (first | (refine step_append_any (o := ⟨some 200, _, _, _, _, _⟩) (base := wo.heap.size) enc1 elI rfl (.tmp 198) (.tmp 199) rfl (some ⟨wo.heap.size, 0, none⟩) 0 0 [] (by rfl) o1 B2 A2 n2 cap2 ns (by rfl) (hsn.below ((lw1).mono hBw)) hm63 (by omega) (lw1).size ?_; intro A3 cap3 w1 hown hgrow hat; have lb1 := below_of_grown lw1 hgrow lw1.size (Nat.le_refl _); have hs1 : Sl eI 1 w1 w1.heap.size A3 (0 + n2) ns := hown.sl enc1; rw [Nat.zero_add] at hs1) | (go_at_call 10; (with_reducible refine (FT.out _ lb1 _ _ _ hs1).mono ?_); rintro e w2 ⟨rfl, hb2⟩; have lb2 := (lb1).trans (hb2.mono (lb1).size)))
              have lp2 := LPH.out.below lb2
              obtain ⟨⟨p0, p1, p2, p3, p4, p5, p6⟩, -⟩ := lp2.2.pile
              have WB := Lib.hid lp2.bel
              clear hown hgrow hat hs1 hb2 lb1 lb2 lp2 lw1 o1 lb hsn
              go_wp2_with fail
              refine (WE.out _ WB.out).mono ?_
              rintro e w3 ⟨rfl, hb3⟩
              go_wp2
              go_ret
              exact ⟨rfl, hb3⟩
  · have hd2 : (r != 0) = true := by simpa using hr
    obtain ⟨⟨p0, p1, p2, p3, p4, p5, p6⟩, -⟩ := kp6.pile
    have HB9 := Lib.hid lq6.1.2
    clear lq6 kp6
    go_wp2_with fail
    simp only [eq0, Result.andThen]
    go_wp2_with fail
    refine (WE.out _ HB9.out).mono ?_
    rintro e w1 ⟨rfl, hb1⟩
    go_wp2
    go_ret
    exact ⟨rfl, hb1⟩
end Go.Proofs.Ythpnikalelookaa
