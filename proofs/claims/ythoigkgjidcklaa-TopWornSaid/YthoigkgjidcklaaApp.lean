/-
  append onto a row of the call's own, from whatever slice that reads as a list (nil and empty ones too).
-/
import Derived.Test.YthoigkgjidcklaaMem
import Derived.Maps.AppendAt
import Derived.Laws.AppendOwnNone
import Derived.Deep.RegionLaw
namespace Go.Proofs.Ythoigkgjidcklaa
open Go.RowKit

/-- t is a slice type over e, each element of which takes 'size' cells and 'bytes' bytes. -/
def Elem (P : Program) (t e : TypeId) (size bytes : Nat) : Prop :=
  P.underlying t = some (.slice e) ∧ 0 < size ∧ ∃ i z, P.info? e = some i ∧ i.zero = some z ∧ i.size = size ∧ i.bytes = bytes ∧ z.cells.size = size

theorem Elem.of {P : Program} {t e : TypeId} {size bytes : Nat} {z : Value} (h1 : P.underlying t = some (.slice e)) (h2 : (P.info? e).map (fun i => (i.zero, i.size, i.bytes)) = some (some z, size, bytes)) (h3 : z.cells.size = size) (h4 : 0 < size) : Elem P t e size bytes := by
  obtain ⟨i, hi, hz, hs, hb⟩ := info_parts h2
  exact ⟨h1, h4, i, z, hi, hz, hs, hb, h3⟩

/-- A row of the call's own (from block 'base' on) that holds the elements xs. -/
def Own {α : Type} (enc : α → List Value) (c : Nat) (e : TypeId) (base : Nat) (w : World) (A : Option Addr) (n cap : Nat) (xs : List α) : Prop :=
  xs.length = n ∧ w.ownsRow base e c (.slice A n cap) n (xs.flatMap enc)

/-- Each element takes c cells, each of one value. -/
def Enc {α : Type} (enc : α → List Value) (c : Nat) : Prop := ∀ x, (enc x).length = c ∧ ∀ u ∈ enc x, u.oneCell' = true

theorem enc1 : Enc eI 1 := fun x => ⟨rfl, fun u hu => by simp [eI] at hu; subst hu; rfl⟩
theorem enc2 : Enc eII 2 := fun x => ⟨rfl, fun u hu => by simp [eII] at hu; rcases hu with rfl | rfl <;> rfl⟩
theorem enc3 : Enc eIII 3 := fun x => ⟨rfl, fun u hu => by simp [eIII] at hu; rcases hu with rfl | rfl | rfl <;> rfl⟩
theorem enc4 : Enc eIV 4 := fun x => ⟨rfl, fun u hu => by simp [eIV] at hu; rcases hu with rfl | rfl | rfl | rfl <;> rfl⟩

theorem flatMap_len {α : Type} {enc : α → List Value} {c : Nat} (h : Enc enc c) (xs : List α) : (xs.flatMap enc).length = xs.length * c := by
  induction xs with
  | nil => simp
  | cons x xs ih => simp only [List.flatMap_cons, List.length_append, ih, (h x).1, List.length_cons, Nat.add_mul]; omega
theorem flatMap_one {α : Type} {enc : α → List Value} {c : Nat} (h : Enc enc c) (xs : List α) : ∀ u ∈ xs.flatMap enc, u.oneCell' = true := fun u hu => by
  obtain ⟨x, _, hx⟩ := List.mem_flatMap.1 hu
  exact (h x).2 u hx
/-- The j-th cell of the i-th element. -/
theorem flatMap_at {α : Type} {enc : α → List Value} {c : Nat} (h : Enc enc c) : ∀ (xs : List α) (i : Nat) (x : α), xs[i]? = some x → ∀ j u, (enc x)[j]? = some u → (xs.flatMap enc)[i * c + j]? = some u
  | [], i, x, hx, _, _, _ => by simp at hx
  | y :: ys, 0, x, hx, j, u, hu => by
    simp at hx; subst hx
    have hj : j < (enc y).length := (List.getElem?_eq_some_iff.1 hu).1
    simp only [List.flatMap_cons, Nat.zero_mul, Nat.zero_add]
    rw [List.getElem?_append_left hj]; exact hu
  | y :: ys, i + 1, x, hx, j, u, hu => by
    have ih := flatMap_at h ys i x (by simpa using hx) j u hu
    simp only [List.flatMap_cons]
    rw [List.getElem?_append_right (by rw [(h y).1, Nat.add_mul]; omega), (h y).1]
    rw [show (i + 1) * c + j - c = i * c + j from by rw [Nat.add_mul]; omega]
    exact ih
/-- And back: which element a cell is of. -/
theorem flatMap_inv {α : Type} {enc : α → List Value} {c : Nat} (h : Enc enc c) : ∀ (xs : List α) (j : Nat) (u : Value), (xs.flatMap enc)[j]? = some u → ∃ (i k : Nat) (x : α), j = i * c + k ∧ xs[i]? = some x ∧ (enc x)[k]? = some u
  | [], j, u, hu => by simp at hu
  | y :: ys, j, u, hu => by
    simp only [List.flatMap_cons] at hu
    by_cases hj : j < (enc y).length
    · rw [List.getElem?_append_left hj] at hu
      exact ⟨0, j, y, by omega, rfl, hu⟩
    · rw [List.getElem?_append_right (by omega)] at hu
      obtain ⟨i, k, x, e1, e2, e3⟩ := flatMap_inv h ys _ u hu
      refine ⟨i + 1, k, x, ?_, by simpa using e2, e3⟩
      rw [(h y).1] at e1 hj
      rw [Nat.add_mul]; omega

section
variable {α : Type} {enc : α → List Value} {c : Nat} {e : TypeId} {base : Nat} {w w' : World} {A : Option Addr} {n cap : Nat} {xs : List α}
theorem Own.len (h : Own enc c e base w A n cap xs) : xs.length = n := h.1
theorem Own.sl (h : Own enc c e base w A n cap xs) (he : Enc enc c) : Sl enc c w w.heap.size A n xs := by
  refine ⟨h.1, fun hne => ?_⟩
  have hn : 0 < n := by
    have := h.1
    cases xs with
    | nil => exact absurd rfl hne
    | cons => simp at this; omega
  obtain ⟨g, cp, hv, _, hlt⟩ := h.2.form hn
  have hA : A = some ⟨g, 0, none⟩ := by injection hv
  subst hA
  refine ⟨g, 0, rfl, hlt, fun i x hx j u hu => ?_⟩
  have := h.2.cells (g := g) rfl (i * c + j) u (flatMap_at he xs i x hx j u hu)
  have e2 : (⟨g, 0, none⟩ : Addr).add (i * c + j) = ⟨g, 0 + i * c + j, none⟩ := by
    unfold Addr.add; split <;> simp_all
  rw [← e2]; exact this
theorem Own.nil : Own enc c e base w none 0 0 [] := ⟨rfl, World.ownsRow_nil w base e c⟩
theorem Own.alloc (h : Own enc c e base w A n cap xs) (o : Obj) : Own enc c e base (w.alloc o) A n cap xs := ⟨h.1, h.2.alloc o⟩
theorem Own.drew (h : Own enc c e base w A n cap xs) : Own enc c e base w.drew A n cap xs := h
/-- What is unchanged from 'base' on in the row's own block stays. -/
theorem Own.kept {row : Option Nat} (h : Own enc c e base w A n cap xs) (hg : w.grownBy w' row) (hne : A.map (·.block) = none ∨ A.map (·.block) ≠ row) : Own enc c e base w' A n cap xs :=
  ⟨h.1, h.2.kept hg (by cases A with | none => exact .inl rfl | some a => exact hne)⟩
theorem Own.below (h : Own enc c e base w A n cap xs) (hb : Below w.heap.size w w') : Own enc c e base w' A n cap xs := by
  refine ⟨h.1, h.2.1, ?_⟩
  rcases h.2.2 with hnil | ⟨g, cp, cur, hv, hbg, hg, hr⟩
  · exact .inl hnil
  · refine .inr ⟨g, cp, cur, hv, hbg, ?_, hr⟩
    rw [hb.block g (by rcases Nat.lt_or_ge g w.heap.size with hlt | hge; exact hlt; rw [Array.getElem?_eq_none hge] at hg; cases hg)]
    exact hg
theorem Own.mono {base' : Nat} (h : Own enc c e base w A n cap xs) (hb : base' ≤ base) : Own enc c e base' w A n cap xs := by
  refine ⟨h.1, h.2.1, ?_⟩
  rcases h.2.2 with hnil | ⟨g, cp, cur, hv, hbg, hr⟩
  · exact .inl hnil
  · exact .inr ⟨g, cp, cur, hv, by omega, hr⟩
/-- A literal slice: a block that was just laid. -/
theorem Own.lit (he : Enc enc c) {cs : Array Value} (hb : base ≤ w.heap.size) (hm : xs.length ≤ maxLen) (hcs : cs.toList = xs.flatMap enc) :
    Own enc c e base (w.alloc (.cells cs e)) (some ⟨w.heap.size, 0, none⟩) xs.length xs.length xs := by
  have hs : cs.size = xs.length * c := by rw [← Array.length_toList, hcs, flatMap_len he]
  refine ⟨rfl, ?_⟩
  have := World.ownsRow_lit (base := base) (e := e) (size := c) w cs xs.length hb hm hs
  rw [hcs] at this
  exact this
end

theorem Sl.news {α : Type} {enc : α → List Value} {c : Nat} {w : World} {B : Nat} {A : Option Addr} {m : Nat} {ys : List α} (he : Enc enc c) (h : Sl enc c w B A m ys) :
    m = 0 ∨ ∃ ad, A = some ad ∧ ∀ j u, (ys.flatMap enc)[j]? = some u → w.cell? (ad.add j) = some u := by
  by_cases hy : ys = []
  · exact .inl (by rw [← h.1, hy]; rfl)
  · obtain ⟨b, off, rfl, _, hc⟩ := h.2 hy
    refine .inr ⟨_, rfl, fun j u hu => ?_⟩
    obtain ⟨i, k, x, rfl, hx, hk⟩ := flatMap_inv he ys j u hu
    have e2 : (⟨b, off, none⟩ : Addr).add (i * c + k) = ⟨b, off + i * c + k, none⟩ := by
      unfold Addr.add; split
      · rename_i h0
        rw [Nat.add_assoc, h0]
        rfl
      · simp; omega
    rw [e2]; exact hc i x hx k u hk

theorem run_append_any {P : Program} {w : World} {α : Type} {enc : α → List Value} {c : Nat} (he : Enc enc c) {t ty e : TypeId} {bytes : Nat} (hE : Elem P t e c bytes) {base : Nat}
    {A : Option Addr} {n cap : Nat} {xs : List α} (hown : Own enc c e base w A n cap xs) {B : Nat} {A2 : Option Addr} {m cap2 : Nat} {ys : List α} (hsrc : Sl enc c w B A2 m ys)
    (h63 : n + m ≤ maxLen) (hbytes : (n + m) * bytes ≤ 140737488355328) (hbase : base ≤ w.heap.size) :
    ∃ A' cap' w', (Builtin.append_ #[t, t] ty #[.slice A n cap, .slice A2 m cap2]).run P w = .ok (.slice A' (n + m) cap') w' ∧ Own enc c e base w' A' (n + m) cap' (xs ++ ys) ∧
      w.grownBy w' (A.map (·.block)) ∧ (A'.map (·.block) = A.map (·.block) ∨ A'.map (·.block) = some w.heap.size) := by
  obtain ⟨ht, hsz, i, z, hi, hz, hsize, hby, hzs⟩ := hE
  have hl : (ys.flatMap enc).length = m * c := by rw [flatMap_len he, hsrc.1]
  have hob : ∀ (A : Option Addr) (n cap : Nat), (Value.slice A n cap).ownBlock = A.map (·.block) := fun A n cap => by cases A <;> rfl
  have go : ∀ ad, (∀ j u, (ys.flatMap enc)[j]? = some u → w.cell? (ad.add j) = some u) → ∃ A' cap' w', (Builtin.append_ #[t, t] ty #[.slice A n cap, .slice (some ad) m cap2]).run P w = .ok (.slice A' (n + m) cap') w' ∧ Own enc c e base w' A' (n + m) cap' (xs ++ ys) ∧
      w.grownBy w' (A.map (·.block)) ∧ (A'.map (·.block) = A.map (·.block) ∨ A'.map (·.block) = some w.heap.size) := fun ad hn => by
    obtain ⟨v', w', hr, h2, h3, _, h5⟩ := run_append_own_at (P := P) w base t ty e i z c bytes ht hi hz hsize hby hzs hsz _ n _ hown.2 ad m cap2 _ hl hn (flatMap_one he ys) h63 hbytes hbase
    have hv : ∃ A' cap', v' = .slice A' (n + m) cap' := by
      rcases h2.2 with ⟨hv, h0⟩ | ⟨g, cp, cur, hv, _⟩
      · exact ⟨none, 0, by rw [hv, h0]⟩
      · exact ⟨_, _, hv⟩
    obtain ⟨A', cap', rfl⟩ := hv
    rw [hob] at h3 h5
    rw [hob] at h5
    exact ⟨A', cap', w', hr, ⟨by rw [List.length_append, hown.1, hsrc.1], by rw [List.flatMap_append]; exact h2⟩, h3, h5⟩
  rcases hsrc.news he with hm | ⟨ad, rfl, hn⟩
  · cases A2 with
    | some ad => exact go ad (fun j u hu => by subst hm; have : ys = [] := List.eq_nil_of_length_eq_zero hsrc.1; subst this; simp at hu)
    | none =>
      subst hm
      have hys : ys = [] := List.eq_nil_of_length_eq_zero hsrc.1
      subst hys
      have hcap : n ≤ cap := by
        rcases hown.2.2 with ⟨hv, h0⟩ | ⟨g, cp, cur, hv, _, _, hle, _⟩
        · omega
        · injection hv with h1 h2 h3; omega
      refine ⟨A, cap, w, ?_, by simpa using hown, ⟨rfl, rfl, rfl, Nat.le_refl _, fun _ _ _ => rfl⟩, .inl rfl⟩
      cases A <;> simp [Builtin.append_, run_underlying ht, sizeOf, typeInfo, hi, Builtin.lenOf, Builtin.firstCells, hcap, storeCells]
  · exact go ad hn

theorem wp_append_any {P : Program} {w : World} {α : Type} {enc : α → List Value} {c : Nat} (he : Enc enc c) {t e : TypeId} {bytes : Nat} (hE : Elem P t e c bytes) {base : Nat} {o : Oper} {a : Act} {K : Act → World → Prop} {Q : Exit → Act → World → Prop} (s x : Operand)
    (ho : o.op = .call { callee := .builtin .append, args := #[s, x], argTypes := #[t, t] })
    (A : Option Addr) (n cap : Nat) (xs : List α) (hs : a.eval s = .slice A n cap) (hown : Own enc c e base w A n cap xs) (B : Nat) (A2 : Option Addr) (m cap2 : Nat) (ys : List α) (hx : a.eval x = .slice A2 m cap2) (hsrc : Sl enc c w B A2 m ys)
    (h63 : n + m ≤ maxLen) (hbytes : (n + m) * bytes ≤ 140737488355328) (hbase : base ≤ w.heap.size)
    (h : ∀ A' cap' w', Own enc c e base w' A' (n + m) cap' (xs ++ ys) → w.grownBy w' (A.map (·.block)) → (A'.map (·.block) = A.map (·.block) ∨ A'.map (·.block) = some w.heap.size) → K (a.put o.dst (.slice A' (n + m) cap')) w') : o.wp P a w K Q := by
  obtain ⟨A', cap', w', hr, h2, h3, h4⟩ := run_append_any (P := P) (ty := o.type) he hE hown (cap2 := cap2) hsrc h63 hbytes hbase
  unfold Oper.wp execOp
  simp only [ho, resolve, invoke, builtin, Sem.run_bind, Sem.run_pure, Result.andThen_ok, List.map_toArray, List.map_cons, List.map_nil, hs, hx, hr]
  exact h A' cap' w' h2 h3 h4

theorem wpList_append_any {P : Program} {w : World} {α : Type} {enc : α → List Value} {c : Nat} (he : Enc enc c) {t e : TypeId} {bytes : Nat} (hE : Elem P t e c bytes) {base : Nat} {ops : Array Oper} {rest : List Oper} {o : Oper} {a : Act} {Q : Exit → Act → World → Prop} (hgd : o.guard = none) (s x : Operand)
    (ho : o.op = .call { callee := .builtin .append, args := #[s, x], argTypes := #[t, t] })
    (A : Option Addr) (n cap : Nat) (xs : List α) (hs : a.eval s = .slice A n cap) (hown : Own enc c e base w A n cap xs) (B : Nat) (A2 : Option Addr) (m cap2 : Nat) (ys : List α) (hx : a.eval x = .slice A2 m cap2) (hsrc : Sl enc c w B A2 m ys)
    (h63 : n + m ≤ maxLen) (hbytes : (n + m) * bytes ≤ 140737488355328) (hbase : base ≤ w.heap.size)
    (h : ∀ A' cap' w', Own enc c e base w' A' (n + m) cap' (xs ++ ys) → w.grownBy w' (A.map (·.block)) → (A'.map (·.block) = A.map (·.block) ∨ A'.map (·.block) = some w.heap.size) → wpList P ops Q rest (a.put o.dst (.slice A' (n + m) cap')) w') : wpList P ops Q (o :: rest) a w :=
  wpList_plain hgd fun _ hK => wp_append_any he hE s x ho A n cap xs hs hown B A2 m cap2 ys hx hsrc h63 hbytes hbase fun A' cap' w' h2 h3 h4 => hK _ _ (h A' cap' w' h2 h3 h4)

theorem step_append_any {P : Program} {w : World} {α : Type} {enc : α → List Value} {c : Nat} (he : Enc enc c) {t e : TypeId} {bytes : Nat} (hE : Elem P t e c bytes) {base : Nat} {ops : Array Oper} {o : Oper} {a : Act} {K : Act → World → Prop} {Q : Exit → Act → World → Prop} {E : Prop} (hgd : o.guard = none) (s x : Operand)
    (ho : o.op = .call { callee := .builtin .append, args := #[s, x], argTypes := #[t, t] })
    (A : Option Addr) (n cap : Nat) (xs : List α) (hs : a.eval s = .slice A n cap) (hown : Own enc c e base w A n cap xs) (B : Nat) (A2 : Option Addr) (m cap2 : Nat) (ys : List α) (hx : a.eval x = .slice A2 m cap2) (hsrc : Sl enc c w B A2 m ys)
    (h63 : n + m ≤ maxLen) (hbytes : (n + m) * bytes ≤ 140737488355328) (hbase : base ≤ w.heap.size)
    (h : ∀ A' cap' w', Own enc c e base w' A' (n + m) cap' (xs ++ ys) → w.grownBy w' (A.map (·.block)) → (A'.map (·.block) = A.map (·.block) ∨ A'.map (·.block) = some w.heap.size) → K (a.put o.dst (.slice A' (n + m) cap')) w') :
    if Region.wanted o (yielded ops a.tmps) = true then Oper.wp P o a w K Q else E := by
  have hw : Region.wanted o (yielded ops a.tmps) = true := by simp [Region.wanted, hgd]
  rw [if_pos hw]
  exact wp_append_any he hE s x ho A n cap xs hs hown B A2 m cap2 ys hx hsrc h63 hbytes hbase h
end Go.Proofs.Ythoigkgjidcklaa
