/-
  Arguments of plain data, opened: structs and arrays cell by cell, slices of what has a fixed number of integers.
-/
import Derived.Test.YthoigkgjidcklaaApp
import Derived.Deep.Slices
import Derived.OpenShut
import Derived.ChangeArms
namespace Go.Proofs.Ythoigkgjidcklaa
open Go.RowKit Go.ChangeShapes Go.WideShapes Go.Deep

/-- The types of the cells of a struct's fields, one behind the other. -/
def leavesF (P : Program) (g : TypeId → Option (List TypeId)) : List Field → Nat → Option (List TypeId)
  | [], _ => some []
  | f :: r, off => if f.offset = off then (g f.type).bind fun a => if P.cellsOf f.type = a.length then (leavesF P g r (off + a.length)).map (a ++ ·) else none else none
/-- The types of the cells of a value: integers, bools, slices. -/
def leaves (P : Program) : Nat → TypeId → Option (List TypeId)
  | 0, _ => none
  | n + 1, t => match P.underlying t with
    | some (.struct fs) => leavesF P (leaves P n) fs.toList 0
    | some (.array m e) => (leaves P n e).bind fun a => if P.cellsOf e = a.length then some ((List.replicate m a).flatten) else none
    | some (.int _) => some [t]
    | some .bool => some [t]
    | some (.slice _) => some [t]
    | _ => none

section
variable {H : Type} {enc : TypeId × Value → H} {P : Program} {w : World} {base : Nat} {spare : Nat → Bool} {held : Bool}

/-- A cell that reads. -/
def LeafAt (enc : TypeId × Value → H) (P : Program) (w : World) (base : Nat) (spare : Nat → Bool) (held : Bool) (cs : List Value) (k : Nat) (t : TypeId) : Prop :=
  ∃ (c : Value) (fuel : Nat) (y : DataW H × List MemPlace), cs[k]? = some c ∧ DataW.trod enc P w base spare held fuel t [c] = some y

theorem leavesF_spec {g : TypeId → Option (List TypeId)} {cs : List Value} (hg : ∀ t a, g t = some a → ∀ fuel cs' x, DataW.trod enc P w base spare held fuel t cs' = some x → ∀ k lt, a[k]? = some lt → LeafAt enc P w base spare held cs' k lt) :
    ∀ (fs : List Field) (off : Nat) (ls : List TypeId), leavesF P g fs off = some ls → (∀ f ∈ fs, ∃ n y, DataW.trod enc P w base spare held n f.type ((cs.drop f.offset).take (P.cellsOf f.type)) = some y) →
      ∀ k lt, ls[k]? = some lt → LeafAt enc P w base spare held cs (off + k) lt
  | [], off, ls, h, _, k, lt, hk => by
    simp only [leavesF, Option.some.injEq] at h
    subst h
    simp at hk
  | f :: r, off, ls, h, hf, k, lt, hk => by
    simp only [leavesF] at h
    split at h
    · rename_i ho
      obtain ⟨a, ha, h⟩ := Option.bind_eq_some_iff.1 h
      split at h
      · rename_i hc
        obtain ⟨b, hb, rfl⟩ := Option.map_eq_some_iff.1 h
        by_cases hka : k < a.length
        · rw [List.getElem?_append_left hka] at hk
          obtain ⟨n, y, hy⟩ := hf f List.mem_cons_self
          obtain ⟨c, m, z, h1, h2⟩ := hg _ _ ha n _ y hy k lt hk
          refine ⟨c, m, z, ?_, h2⟩
          rw [List.getElem?_take] at h1
          split at h1
          · rw [List.getElem?_drop, ho] at h1
            exact h1
          · cases h1
        · rw [List.getElem?_append_right (by omega)] at hk
          have ih := leavesF_spec hg r (off + a.length) b hb (fun f hf' => hf f (List.mem_cons_of_mem _ hf')) (k - a.length) lt hk
          rwa [show off + a.length + (k - a.length) = off + k from by omega] at ih
      · cases h
    · cases h

theorem replicate_at {α : Type} {a : List α} : ∀ (m k : Nat) (x : α), ((List.replicate m a).flatten)[k]? = some x → ∃ i j, i < m ∧ j < a.length ∧ k = i * a.length + j ∧ a[j]? = some x
  | 0, k, x, h => by simp at h
  | m + 1, k, x, h => by
    rw [List.replicate_succ, List.flatten_cons] at h
    by_cases hk : k < a.length
    · rw [List.getElem?_append_left hk] at h
      exact ⟨0, k, by omega, hk, by omega, h⟩
    · rw [List.getElem?_append_right (by omega)] at h
      obtain ⟨i, j, h1, h2, h3, h4⟩ := replicate_at m _ x h
      exact ⟨i + 1, j, by omega, h2, by rw [Nat.add_mul]; omega, h4⟩

theorem leaves_spec : ∀ (f : Nat) (t : TypeId) (ls : List TypeId), leaves P f t = some ls → ∀ fuel cs x, DataW.trod enc P w base spare held fuel t cs = some x → ∀ k lt, ls[k]? = some lt → LeafAt enc P w base spare held cs k lt
  | 0, t, ls, h => by simp [leaves] at h
  | n + 1, t, ls, h => by
    intro fuel cs x hx k lt hk
    unfold leaves at h
    split at h
    · rename_i fs hu
      obtain ⟨xs, m, _, _, _, hl, hg⟩ := DataW.trod_struct hu hx
      have := leavesF_spec (cs := cs) (fun t a ha => leaves_spec n t a ha) fs.toList 0 ls h (fun f hf => by
        obtain ⟨i, hi⟩ := List.getElem?_of_mem hf
        have h1 := hg i f (by simpa using hi)
        have hlt : i < xs.length := by
          have := (List.getElem?_eq_some_iff.1 hi).1
          simp at this
          omega
        exact ⟨m, _, h1.trans (List.getElem?_eq_getElem hlt)⟩) k lt hk
      simpa using this
    · rename_i m e hu
      obtain ⟨a, ha, h⟩ := Option.bind_eq_some_iff.1 h
      split at h
      · rename_i hc
        simp only [Option.some.injEq] at h
        subst h
        obtain ⟨i, j, h1, h2, rfl, h4⟩ := replicate_at m k lt hk
        obtain ⟨xs, m', _, _, _, hl, hg⟩ := DataW.trod_array hu hx
        have h5 := (hg i h1).trans (List.getElem?_eq_getElem (by omega))
        obtain ⟨c, p, z, h6, h7⟩ := leaves_spec n e a ha m' _ _ h5 j lt h4
        refine ⟨c, p, z, ?_, h7⟩
        rw [List.getElem?_take] at h6
        split at h6
        · rw [List.getElem?_drop, hc] at h6
          exact h6
        · cases h6
      · cases h
    · rename_i kd hu
      simp only [Option.some.injEq] at h
      subst h
      obtain ⟨v, rfl, _⟩ := DataW.trod_int hu hx
      cases k with
      | zero =>
        simp at hk
        subst hk
        exact ⟨_, fuel, x, rfl, hx⟩
      | succ k => simp at hk
    · rename_i hu
      simp only [Option.some.injEq] at h
      subst h
      obtain ⟨v, rfl, _⟩ := DataW.trod_bool hu hx
      cases k with
      | zero =>
        simp at hk
        subst hk
        exact ⟨_, fuel, x, rfl, hx⟩
      | succ k => simp at hk
    · rename_i e hu
      simp only [Option.some.injEq] at h
      subst h
      have : ∃ v, cs = [v] := by
        rcases DataW.trod_slice hu hx with ⟨rfl, _⟩ | ⟨a, len, cap, elems, rest, n, _, rfl, _⟩
        · exact ⟨_, rfl⟩
        · exact ⟨_, rfl⟩
      obtain ⟨v, rfl⟩ := this
      cases k with
      | zero =>
        simp at hk
        subst hk
        exact ⟨_, fuel, x, rfl, hx⟩
      | succ k => simp at hk
    · cases h

/-- An integer cell. -/
theorem LeafAt.int {cs : List Value} {k : Nat} {t : TypeId} {kd : IntKind} (h : LeafAt enc P w base spare held cs k t) (ht : P.underlying t = some (.int kd)) : ∃ n : Int, cs[k]? = some (.int kd n) ∧ (Lit.int kd n).wf = true := by
  obtain ⟨c, fuel, y, h1, h2⟩ := h
  obtain ⟨n, h3, _, h4⟩ := DataW.trod_int ht h2
  simp only [List.cons.injEq, and_true] at h3
  subst h3
  exact ⟨n, h1, h4⟩
theorem LeafAt.bool {cs : List Value} {k : Nat} {t : TypeId} (h : LeafAt enc P w base spare held cs k t) (ht : P.underlying t = some .bool) : ∃ b : Bool, cs[k]? = some (.bool b) := by
  obtain ⟨c, fuel, y, h1, h2⟩ := h
  obtain ⟨b, h3, _⟩ := DataW.trod_bool ht h2
  simp only [List.cons.injEq, and_true] at h3
  subst h3
  exact ⟨b, h1⟩

theorem add_zero_block (a : Addr) (n : Nat) : (a.add n).block = a.block := by unfold Addr.add; split <;> rfl
theorem cell_lt {w : World} {a : Addr} {v : Value} (h : w.cell? a = some v) : a.block < w.heap.size := by
  rcases Nat.lt_or_ge a.block w.heap.size with hlt | hge
  · exact hlt
  · unfold World.cell? at h; rw [Array.getElem?_eq_none hge] at h; cases h

/-- A slice of what has c integers of one kind, each. -/
theorem Sl.of_trod {α : Type} {ea : α → List Value} {c : Nat} {kd : IntKind} (mk : List Int → α) (hmk : ∀ l : List Int, l.length = c → ea (mk l) = l.map (Value.int kd)) {f fuel : Nat} {t e : TypeId} {ls : List TypeId} {v : Value} {x : DataW H × List MemPlace}
    (ht : P.underlying t = some (.slice e)) (hle : leaves P f e = some ls) (hlen : ls.length = c) (hc : 0 < c) (hC : P.cellsOf e = c) (hls : ∀ lt ∈ ls, P.underlying lt = some (.int kd)) (h : DataW.trod enc P w base spare held fuel t [v] = some x) :
    ∃ (A : Option Addr) (n cap : Nat) (xs : List α), v = .slice A n cap ∧ Sl ea c w w.heap.size A n xs ∧ n ≤ cap ∧ cap ≤ maxLen ∧ ∀ y ∈ xs, ∃ l : List Int, l.length = c ∧ y = mk l ∧ ∀ z ∈ l, (Lit.int kd z).wf = true := by
  rcases open_slice ht h with ⟨hcs, _⟩ | ⟨a, len, cap, m, n, D, Pl, hcs, hb, hl, hm, hmm, hx, hi⟩
  · simp only [List.cons.injEq, and_true] at hcs
    subst hcs
    exact ⟨none, 0, 0, [], rfl, Sl.nil, Nat.le_refl _, by simp [maxLen], fun y hy => by cases hy⟩
  · simp only [List.cons.injEq, and_true] at hcs
    subst hcs
    have hmle : len ≤ m := by rw [hmm]; split <;> omega
    have hz : ∀ i, ∃ l : List Int, i < len → l.length = c ∧ (∀ z ∈ l, (Lit.int kd z).wf = true) ∧ ∀ (j : Nat) (z : Int), l[j]? = some z → w.cell? (a.add (i * c + j)) = some (.int kd z) := by
      intro i
      by_cases hil : i < len
      · obtain ⟨cs', h1, h2⟩ := hi i (by omega)
        obtain ⟨_, h3, h4⟩ := World.cells?_some h1
        rw [hC] at h3 h4
        have h5 : ∀ j, ∃ z : Int, j < c → cs'[j]? = some (.int kd z) ∧ (Lit.int kd z).wf = true := by
          intro j
          by_cases hj : j < c
          · have hk : ls[j]? = some (ls[j]'(by omega)) := List.getElem?_eq_getElem (by omega)
            obtain ⟨z, hz⟩ := (leaves_spec f e ls hle n cs' _ h2 j _ hk).int (hls _ (List.getElem_mem _))
            exact ⟨z, fun _ => hz⟩
          · exact ⟨0, fun h => absurd h hj⟩
        obtain ⟨g, hg⟩ := Classical.axiomOfChoice h5
        refine ⟨(List.range c).map g, fun _ => ⟨by simp, ?_, ?_⟩⟩
        · intro z hz
          obtain ⟨j, hj, rfl⟩ := List.mem_map.1 hz
          exact (hg j (by simpa using hj)).2
        · intro j z hz
          have hj : j < c := by
            have := (List.getElem?_eq_some_iff.1 hz).1
            simpa using this
          have : z = g j := by
            rw [List.getElem?_map, List.getElem?_range hj] at hz
            simpa using hz.symm
          subst this
          have h6 := h4 j hj
          rw [(hg j hj).1] at h6
          rw [← Go.Deep.add_add, hC] at *
          exact h6
      · exact ⟨[], fun h => absurd h hil⟩
    obtain ⟨g, hg⟩ := Classical.axiomOfChoice hz
    refine ⟨some a, len, cap, (List.range len).map fun i => mk (g i), rfl, ⟨by simp, fun hne => ?_⟩, hl, hm, ?_⟩
    · have h0 : 0 < len := by
        rcases Nat.eq_zero_or_pos len with h0 | h0
        · subst h0; exact absurd rfl hne
        · exact h0
      obtain ⟨e1, e2, e3⟩ := hg 0 h0
      have hc0 := e3 0 ((g 0)[0]'(by omega)) (List.getElem?_eq_getElem (by omega))
      have hlt := cell_lt hc0
      have hsp := World.cell?_spot hc0
      obtain ⟨b, off, spot⟩ := a
      have hs : spot = none := by simpa [Addr.add] using hsp
      subst hs
      rw [add_zero_block] at hlt
      refine ⟨b, off, rfl, hlt, fun i y hy j u hu => ?_⟩
      have hil : i < len := by
        have := (List.getElem?_eq_some_iff.1 hy).1
        simpa using this
      obtain ⟨e1, e2, e3⟩ := hg i hil
      have hy' : y = mk (g i) := by
        rw [List.getElem?_map, List.getElem?_range hil] at hy
        simpa using hy.symm
      subst hy'
      rw [hmk _ e1, List.getElem?_map] at hu
      obtain ⟨z, hz, rfl⟩ := Option.map_eq_some_iff.1 hu
      have := e3 j z hz
      have ea' : (⟨b, off, none⟩ : Addr).add (i * c + j) = ⟨b, off + i * c + j, none⟩ := by
        unfold Addr.add
        split
        · rename_i h0
          rw [Nat.add_assoc, h0]
          rfl
        · simp; omega
      rw [ea'] at this
      exact this
    · intro y hy
      obtain ⟨i, hi', rfl⟩ := List.mem_map.1 hy
      obtain ⟨e1, e2, _⟩ := hg i (by simpa using hi')
      exact ⟨g i, e1, rfl, e2⟩
end
end Go.Proofs.Ythoigkgjidcklaa
