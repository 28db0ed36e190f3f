/-
  A machine for closed runs, third part: loads, stores, new blocks.
-/
import Derived.Test.YtlkfcbdbieenhaaEvB
import Derived.Laws.Entries
import Derived.ChangeKeysEq
namespace Go.Ev
open Go Go.RowKit

def isAggD : TypeDesc → Bool
  | .struct _ | .array _ _ => true
  | _ => false

section
variable {P : Program} {w0 w w' : World} {φ φ' : Nat → Nat × Nat} {κ κ' : Nat → Nat} {h h' : AH}

theorem run_typeInfo' {t : TypeId} {i : TypeInfo} (hi : P.info? t = some i) (w : World) : (typeInfo t).run P w = .ok i w := by
  simp [typeInfo, program, Sem.run, Sem.run_bind, hi]
theorem run_sizeOf' {t : TypeId} {i : TypeInfo} (hi : P.info? t = some i) (w : World) : (sizeOf t).run P w = .ok i.size w := by
  unfold sizeOf
  rw [Sem.run_bind, run_typeInfo' hi]
  rfl
theorem run_zeroValue' {t : TypeId} {i : TypeInfo} {z : Value} (hi : P.info? t = some i) (hz : i.zero = some z) (w : World) : (zeroValue t).run P w = .ok z w := by
  unfold zeroValue
  rw [Sem.run_bind, run_typeInfo' hi]
  simp [hz]
theorem run_isAgg' {t : TypeId} {d : TypeDesc} (hd : P.underlying t = some d) (w : World) : (isAgg t).run P w = .ok (isAggD d) w := by
  unfold isAgg
  rw [Sem.run_bind, run_underlying hd]
  cases d <;> rfl

theorem add_none (b o i : Nat) : (⟨b, o, none⟩ : Addr).add i = ⟨b, o + i, none⟩ := by
  unfold Addr.add
  split <;> simp_all

/- the cells of a name, in the world -/
theorem Rel.cells (R : Rel w0 φ κ h w) {k : Nat} {b : Blk} (g : h.get k = some (.cells b)) {j : Nat} {v : Value} (hj : b.cells[j]? = some v) : w.cell? ⟨(φ k).1, (φ k).2 + j, none⟩ = some (ren φ κ v) ∧ okV h.N κ v := by
  obtain ⟨c, el, h1, h0, h2, h3, _⟩ := R.ent k _ g
  refine ⟨?_, h3 v (List.mem_of_getElem? hj)⟩
  simp [World.cell?, h1, h2 j v hj]

theorem Rel.loadCells (R : Rel w0 φ κ h w) {k o n : Nat} {b : Blk} (g : h.get k = some (.cells b)) (hn : o + n ≤ b.cells.length) :
    (loadCells ⟨(φ k).1, (φ k).2 + o, none⟩ n).run P w = .ok (((b.cells.drop o).take n).map (ren φ κ)).toArray w := by
  have hl : (((b.cells.drop o).take n).map (ren φ κ)).length = n := by simp; omega
  have := run_loadCells_list (P := P) w ⟨(φ k).1, (φ k).2 + o, none⟩ (((b.cells.drop o).take n).map (ren φ κ)) (fun j v hj => by
    rw [add_none]
    have hjl : j < n := by
      have := (List.getElem?_eq_some_iff.1 hj).1
      omega
    rw [List.getElem?_map, List.getElem?_take, if_pos hjl, List.getElem?_drop] at hj
    cases hc : b.cells[o + j]? with
    | none => rw [hc] at hj; simp at hj
    | some u =>
      rw [hc] at hj
      simp only [Option.map_some, Option.some.injEq] at hj
      subst hj
      have := (R.cells g hc).1
      rw [Nat.add_assoc]
      exact this)
  rw [hl] at this
  exact this

def aLoad (P : Program) (h : AH) (t : TypeId) : Value → Option Value
  | .pointer (some ⟨k, o, none⟩) =>
    match h.get k, P.underlying t, P.info? t with
    | some (.cells b), some d, some i =>
      if isAggD d then (if o + i.size ≤ b.cells.length then some (.agg ((b.cells.drop o).take i.size).toArray) else none)
      else b.cells[o]?
    | _, _, _ => none
  | _ => none

theorem aLoad_sound (R : Rel w0 φ κ h w) {t : TypeId} {a v : Value} (e : aLoad P h t a = some v) : (Instr.loadAt t (ren φ κ a)).run P w = .ok (ren φ κ v) w ∧ okV h.N κ v := by
  unfold aLoad at e
  split at e
  · rename_i k o
    split at e
    · rename_i b d i g hd hi
      unfold Instr.loadAt
      simp only [ren, Instr.sureAddr, Sem.run_bind, Sem.run_pure, Result.andThen_ok, loadVar, run_isAgg' hd]
      split at e
      · rename_i hag
        split at e
        · rename_i hle
          injection e with e
          subst e
          simp only [hag, if_true, Sem.run_bind, run_sizeOf' hi, Result.andThen_ok, R.loadCells g hle, Sem.run_pure]
          refine ⟨?_, ?_⟩
          · simp [ren, renA, renL_map]
          · simp only [okV, okA, okL_iff]
            intro x hx
            have hx2 := List.mem_of_mem_drop (List.mem_of_mem_take hx)
            obtain ⟨c, el, h1, h0, h2, h3, _⟩ := R.ent k _ g
            exact h3 x hx2
        · cases e
      · rename_i hag
        have hag' : isAggD d = false := by simpa using hag
        obtain ⟨hc, ho⟩ := R.cells g e
        simp only [hag', Bool.false_eq_true, if_false, run_load, hc]
        exact ⟨trivial, ho⟩
    · cases e
  · cases e

def writeAt (l : List Value) (o : Nat) (vs : List Value) : List Value := l.take o ++ vs ++ l.drop (o + vs.length)

theorem setRow_set {g : Nat} {c : Array Value} {t : TypeId} {fr : Nat × Nat} (hg : w.heap[g]? = some (.cells c t fr)) (c' : Array Value) : w.setRow g c' = { w with heap := w.heap.setIfInBounds g (.cells c' t fr) } := by
  unfold World.setRow
  congr 1
  apply Array.ext_getElem?
  intro j
  rw [Array.getElem?_modify]
  by_cases e : g = j
  · subst e
    rw [if_pos rfl, hg, Array.getElem?_setIfInBounds_self_of_lt (Array.getElem?_eq_some_iff.1 hg).1]
    rfl
  · rw [if_neg e, Array.getElem?_setIfInBounds_ne e]

theorem writeAt_get {l vs : List Value} {o : Nat} (hl : o + vs.length ≤ l.length) (j : Nat) : (writeAt l o vs)[j]? = if o ≤ j ∧ j < o + vs.length then vs[j - o]? else l[j]? := by
  unfold writeAt
  have h1 : (l.take o).length = o := by simp; omega
  by_cases a : j < o
  · rw [if_neg (by omega), List.append_assoc, List.getElem?_append_left (by omega), List.getElem?_take, if_pos a]
  · by_cases b : j < o + vs.length
    · rw [if_pos (by omega), List.append_assoc, List.getElem?_append_right (by omega), h1, List.getElem?_append_left (by omega)]
    · rw [if_neg (by omega), List.getElem?_append_right (by simp; omega), List.getElem?_drop]
      congr 1
      simp
      omega

theorem one_ren (φ : Nat → Nat × Nat) (κ : Nat → Nat) (v : Value) : (ren φ κ v).oneCell' = v.oneCell' := by
  cases v with
  | pointer a => cases a <;> simp [ren, Value.oneCell']
  | slice a n c => cases a <;> simp [ren, Value.oneCell']
  | map a => cases a <;> simp [ren, Value.oneCell']
  | _ => simp [ren, Value.oneCell']

/- values laid into a block -/
theorem Rel.storeCells (R : Rel w0 φ κ h w) {k o : Nat} {b : Blk} {vs : List Value} (g : h.get k = some (.cells b)) (hk : h.wlim ≤ k) (hl : o + vs.length ≤ b.cells.length) (hf : vs.all Value.oneCell' = true) (hv : ∀ v ∈ vs, okV h.N κ v) :
    ∃ w', (storeCells ⟨(φ k).1, (φ k).2 + o, none⟩ (vs.map (ren φ κ)) 0).run P w = .ok () w' ∧ Step w0 φ κ h φ κ (h.put k (some (.cells { b with cells := writeAt b.cells o vs }))) w' := by
  obtain ⟨c, el, h1, h0, h2, h3, h4⟩ := R.ent k _ g
  have hf' : ∀ v ∈ vs.map (ren φ κ), v.oneCell' = true := by
    intro v hv
    obtain ⟨u, hu, rfl⟩ := List.mem_map.1 hv
    have := List.all_eq_true.1 hf u hu
    rw [one_ren]
    exact this
  have hrun := run_storeCells_at P (φ k).1 ((φ k).2 + o) el (vs.map (ren φ κ)) 0 c w h1 (by simp; omega) hf'
  rw [setRow_set h1] at hrun
  refine ⟨_, hrun, R.write g hk ?_⟩
  have hlt := (R.ent k _ g).lt
  refine ⟨_, el, Array.getElem?_setIfInBounds_self_of_lt hlt, ?_, fun j v hj => ?_, fun v hv' => ?_, ?_⟩
  · have : (writeAt b.cells o vs).length = b.cells.length := by unfold writeAt; simp; omega
    simp only [List.size_toArray, List.length_append, List.length_take, List.length_drop, List.length_map, Array.length_toList, this]
    omega
  · simp only [List.getElem?_toArray]
    have e := writeAt_get (l := c.toList) (vs := vs.map (ren φ κ)) (o := (φ k).2 + o) (by simp; omega) ((φ k).2 + j)
    unfold writeAt at e
    simp only [Nat.add_zero]
    rw [e]
    rw [writeAt_get hl] at hj
    by_cases hc : o ≤ j ∧ j < o + vs.length
    · rw [if_pos hc] at hj
      rw [if_pos (by simp; omega), List.getElem?_map, show (φ k).2 + j - ((φ k).2 + o) = j - o from by omega, hj]
      rfl
    · rw [if_neg hc] at hj
      rw [if_neg (by simp; omega)]
      simpa using h2 j v hj
  · unfold writeAt at hv'
    rw [List.mem_append, List.mem_append] at hv'
    rcases hv' with (hv' | hv') | hv'
    · exact h3 v (List.mem_of_mem_take hv')
    · exact hv v hv'
    · exact h3 v (List.mem_of_mem_drop hv')
  · intro ho
    have := h4 ho
    simp only [List.size_toArray, List.length_append, List.length_take, List.length_drop, List.length_map, Array.length_toList]
    omega
end
end Go.Ev
