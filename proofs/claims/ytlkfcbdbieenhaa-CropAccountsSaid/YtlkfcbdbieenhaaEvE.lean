/-
  A machine for closed runs, fifth part: aggregates, slices.
-/
import Derived.Test.YtlkfcbdbieenhaaEvD
namespace Go.Ev
open Go Go.RowKit

theorem pureRun_bind {α β : Type} (P : Program) (s : Sem α) (f : α → Sem β) : pureRun P (s >>= f) = (pureRun P s).bind fun a => pureRun P (f a) := by
  show pureRun P (s.bind f) = _
  induction s with
  | program k ih => simp only [Sem.bind, pureRun]; exact ih _
  | pure a => rfl
  | _ => rfl

section
variable {P : Program} {w0 w w' : World} {φ φ' : Nat → Nat × Nat} {κ κ' : Nat → Nat} {h h' : AH}

theorem renA_get (φ : Nat → Nat × Nat) (κ : Nat → Nat) (a : Array Value) (i : Nat) : (renA φ κ a)[i]? = (a[i]?).map (ren φ κ) := by
  rw [renA_map]; simp
theorem renA_size (φ : Nat → Nat × Nat) (κ : Nat → Nat) (a : Array Value) : (renA φ κ a).size = a.size := by
  rw [renA_map]; simp

/- a part of an aggregate -/
def aPart (P : Program) (t : TypeId) (cs : Array Value) (off : Nat) : Option Value :=
  match P.underlying t, P.info? t with
  | some d, some i => if isAggD d then some (.agg (cs.extract off (off + i.size))) else cs[off]?
  | _, _ => none
theorem aPart_sound {N : Nat → Prop} {t : TypeId} {cs : Array Value} {off : Nat} {v : Value} (e : aPart P t cs off = some v) (o : okA N κ cs) :
    (part t (renA φ κ cs) off).run P w = .ok (ren φ κ v) w ∧ okV N κ v := by
  unfold aPart at e
  split at e
  · rename_i d i hd hi
    unfold part
    rw [Sem.run_bind, run_isAgg' hd]
    simp only [Result.andThen_ok]
    split at e
    · rename_i ha
      injection e with e
      subst e
      simp only [ha, if_true, Sem.run_bind, run_sizeOf' hi, Result.andThen_ok, Sem.run_pure]
      refine ⟨?_, ?_⟩
      · simp [ren, renA_map]
      · simp only [okV]
        rw [okA_iff] at o ⊢
        intro x hx
        exact o x (by
          rw [Array.toList_extract] at hx
          exact List.mem_of_mem_drop (List.mem_of_mem_take (by simpa [List.extract] using hx)))
    · rename_i ha
      have ha' : isAggD d = false := by simpa using ha
      simp only [ha', Bool.false_eq_true, if_false, renA_get, e, Option.map_some, Sem.run_pure]
      exact ⟨trivial, okA_iff.1 o v (by
        obtain ⟨hlt, hv⟩ := Array.getElem?_eq_some_iff.1 e
        exact hv ▸ (by simp))⟩
  · cases e

def aField (P : Program) (t : TypeId) (f : Nat) (x : Value) : Option Value :=
  match x, fieldOf P t f with
  | .agg cs, some fd => aPart P fd.type cs fd.offset
  | _, _ => none
theorem aField_sound {N : Nat → Prop} {t : TypeId} {f : Nat} {x v : Value} (e : aField P t f x = some v) (o : okV N κ x) :
    (Instr.field t (ren φ κ x) f).run P w = .ok (ren φ κ v) w ∧ okV N κ v := by
  unfold aField at e
  split at e
  · rename_i cs fd hf
    unfold fieldOf at hf
    split at hf
    · rename_i fields hu
      obtain ⟨h1, h2⟩ := aPart_sound (w := w) (φ := φ) e (by simpa only [okV] using o)
      refine ⟨?_, h2⟩
      unfold Instr.field
      simp only [Sem.run_bind, run_underlying hu, Result.andThen_ok, hf, ren, asAgg, Sem.run_pure, h1]
    · cases hf
  · cases e

def aExtract (x : Value) (i : Nat) : Option Value :=
  match x with
  | .tuple vs => vs[i]?
  | _ => none
theorem aExtract_sound {N : Nat → Prop} {x v : Value} {i : Nat} (e : aExtract x i = some v) (o : okV N κ x) :
    (Instr.extract (ren φ κ x) i).run P w = .ok (ren φ κ v) w ∧ okV N κ v := by
  unfold aExtract at e
  split at e
  · rename_i vs
    refine ⟨?_, ?_⟩
    · simp only [ren, Instr.extract, renA_get, e, Option.map_some]
      rfl
    · simp only [okV] at o
      obtain ⟨hlt, hv⟩ := Array.getElem?_eq_some_iff.1 e
      exact okA_iff.1 o v (hv ▸ (by simp))
  · cases e

/- parts laid into cells -/
def renP (φ : Nat → Nat × Nat) (κ : Nat → Nat) (ps : List (Nat × Value)) : List (Nat × Value) := ps.map fun p => (p.1, ren φ κ p.2)

theorem foldl_set_map (φ : Nat → Nat × Nat) (κ : Nat → Nat) (off : Nat) : ∀ (l : List (Value × Nat)) (cells : Array Value),
    (l.map fun p => (ren φ κ p.1, p.2)).foldl (fun cs (x : Value × Nat) => cs.setIfInBounds (off + x.2) x.1) (cells.map (ren φ κ)) = (l.foldl (fun cs (x : Value × Nat) => cs.setIfInBounds (off + x.2) x.1) cells).map (ren φ κ) := by
  intro l
  induction l with
  | nil => intro cells; rfl
  | cons p r ih =>
    intro cells
    simp only [List.map_cons, List.foldl_cons]
    rw [← ih]
    congr 1
    apply Array.ext_getElem?
    intro j
    simp only [Array.getElem?_setIfInBounds, Array.getElem?_map, Array.size_map]
    split
    · split <;> simp
    · rfl

theorem fill_ren (φ : Nat → Nat × Nat) (κ : Nat → Nat) (place : Nat → Option (Nat × Nat)) : ∀ (ps : List (Nat × Value)) (cells out : Array Value),
    Instr.fill place cells ps = some out → Instr.fill place (cells.map (ren φ κ)) (renP φ κ ps) = some (out.map (ren φ κ)) := by
  intro ps
  induction ps with
  | nil => intro cells out e; simp only [Instr.fill, Option.some.injEq] at e; subst e; rfl
  | cons p r ih =>
    intro cells out e
    obtain ⟨i, v⟩ := p
    simp only [Instr.fill, renP, List.map_cons] at e ⊢
    cases hp : place i with
    | none => rw [hp] at e; cases e
    | some q =>
      obtain ⟨off, size⟩ := q
      rw [hp] at e
      simp only [ren_cells, Array.size_map] at e ⊢
      split at e
      · cases e
      · rename_i hc
        rw [if_neg hc]
        have := ih _ _ e
        unfold renP at this
        rw [← this]
        congr 1
        rw [← Array.foldl_toList, ← Array.foldl_toList, ← foldl_set_map]
        congr 1
        rw [Array.toList_zipIdx, Array.toList_zipIdx, Array.toList_map, List.zipIdx_map]
        rfl

theorem foldl_set_ok {N : Nat → Prop} (off : Nat) : ∀ (l : List (Value × Nat)) (cells : Array Value), (∀ p ∈ l, okV N κ p.1) → okA N κ cells → okA N κ (l.foldl (fun cs (x : Value × Nat) => cs.setIfInBounds (off + x.2) x.1) cells) := by
  intro l
  induction l with
  | nil => intro cells _ o; exact o
  | cons p r ih =>
    intro cells hl o
    simp only [List.foldl_cons]
    refine ih _ (fun q hq => hl q (by simp [hq])) ?_
    rw [okA_iff] at o ⊢
    intro v hv
    rw [Array.toList_setIfInBounds] at hv
    rcases List.mem_or_eq_of_mem_set hv with hv | hv
    · exact o v hv
    · rw [hv]; exact hl p (by simp)

theorem fill_ok {N : Nat → Prop} (place : Nat → Option (Nat × Nat)) : ∀ (ps : List (Nat × Value)) (cells out : Array Value),
    Instr.fill place cells ps = some out → (∀ p ∈ ps, okV N κ p.2) → okA N κ cells → okA N κ out := by
  intro ps
  induction ps with
  | nil => intro cells out e _ o; simp only [Instr.fill, Option.some.injEq] at e; subst e; exact o
  | cons p r ih =>
    intro cells out e hp o
    obtain ⟨i, v⟩ := p
    simp only [Instr.fill] at e
    cases hq : place i with
    | none => rw [hq] at e; cases e
    | some q =>
      obtain ⟨off, size⟩ := q
      rw [hq] at e
      simp only at e
      split at e
      · cases e
      · refine ih _ _ e (fun q hq => hp q (by simp [hq])) ?_
        rw [← Array.foldl_toList]
        refine foldl_set_ok off _ _ (fun q hq => ?_) o
        have : q.1 ∈ v.cells.toList := by
          rw [Array.toList_zipIdx] at hq
          exact (List.mem_zipIdx' hq).2 ▸ List.getElem_mem _
        exact ok_cells (hp (i, v) (by simp)) _ this

def aPlaces (P : Program) (fields : Array Field) : Option (Array (Nat × Nat)) := pureRun P (fields.mapM fun f => do pure (f.offset, ← sizeOf f.type))

def aBuild (P : Program) (t : TypeId) (ps : List (Nat × Value)) : Option Value :=
  match zeroOf P t, P.underlying t with
  | some z, some (.struct fields) =>
    match aPlaces P fields with
    | some pl => (Instr.fill (pl[·]?) z.cells ps).map .agg
    | none => none
  | some z, some (.array _ el) =>
    match P.info? el with
    | some i => (Instr.fill (fun j => some (j * i.size, i.size)) z.cells ps).map .agg
    | none => none
  | _, _ => none

theorem map_ren_noAddr {z : Value} (hn : noAddr z = true) : z.cells.map (ren φ κ) = z.cells := by rw [← ren_cells, ren_noAddr _ _ _ hn]
theorem okA_noAddr_cells {N : Nat → Prop} {z : Value} (hn : noAddr z = true) : okA N κ z.cells := okA_iff.2 (ok_cells (ok_noAddr N κ z hn))

theorem aBuild_sound {N : Nat → Prop} {t : TypeId} {ps : List (Nat × Value)} {v : Value} (e : aBuild P t ps = some v) (o : ∀ p ∈ ps, okV N κ p.2) :
    (Instr.build t (renP φ κ ps).toArray).run P w = .ok (ren φ κ v) w ∧ okV N κ v := by
  unfold aBuild at e
  split at e
  · rename_i z fields hz hu
    obtain ⟨hn, i, hi, hz'⟩ := zeroOf_spec hz
    split at e
    · rename_i pl hpl
      cases hf : Instr.fill (pl[·]?) z.cells ps with
      | none => rw [hf] at e; cases e
      | some out =>
        rw [hf] at e
        injection e with e
        subst e
        refine ⟨?_, by simp only [okV]; exact fill_ok _ _ _ _ hf o (okA_noAddr_cells hn)⟩
        have h2 := fill_ren φ κ _ _ _ _ hf
        rw [map_ren_noAddr hn] at h2
        have h3 := pureRun_run (w := w) hpl
        unfold Instr.build
        simp only [Sem.run_bind, run_zeroValue' hi hz', Result.andThen_ok, run_underlying hu] at h3 ⊢
        rw [h3]
        simp only [Result.andThen_ok]
        rw [h2]
        simp [ren, renA_map]
    · cases e
  · rename_i z n el hz hu
    obtain ⟨hn, i, hi, hz'⟩ := zeroOf_spec hz
    split at e
    · rename_i j hj
      cases hf : Instr.fill (fun k => some (k * j.size, j.size)) z.cells ps with
      | none => rw [hf] at e; cases e
      | some out =>
        rw [hf] at e
        injection e with e
        subst e
        refine ⟨?_, by simp only [okV]; exact fill_ok _ _ _ _ hf o (okA_noAddr_cells hn)⟩
        have h2 := fill_ren φ κ _ _ _ _ hf
        rw [map_ren_noAddr hn] at h2
        unfold Instr.build
        simp only [Sem.run_bind, run_zeroValue' hi hz', Result.andThen_ok, run_underlying hu, run_sizeOf' hj]
        rw [h2]
        simp [ren, renA_map]
    · cases e
  · cases e

def zlist (z : Value) (n : Nat) : List Value := (List.range n).map fun i => z.cells[i % z.cells.size]!
theorem zlist_map (z : Value) (n : Nat) (hn : noAddr z = true) : (zlist z n).map (ren φ κ) = zlist z n := by
  unfold zlist
  rw [List.map_map]
  apply List.map_congr_left
  intro i _
  simp only [Function.comp]
  rcases Nat.lt_or_ge (i % z.cells.size) z.cells.size with hl | hl
  · rw [getElem!_pos z.cells _ hl]
    have := congrArg (fun a : Array Value => a[i % z.cells.size]?) (map_ren_noAddr (φ := φ) (κ := κ) hn)
    simpa [hl] using this
  · rw [getElem!_neg z.cells _ (by omega)]
    show ren φ κ (default : Value) = default
    rfl
theorem zlist_ok {N : Nat → Prop} (z : Value) (n : Nat) (hn : noAddr z = true) : ∀ v ∈ zlist z n, okV N κ v := by
  intro v hv
  unfold zlist at hv
  obtain ⟨i, _, rfl⟩ := List.mem_map.1 hv
  rcases Nat.lt_or_ge (i % z.cells.size) z.cells.size with hl | hl
  · rw [getElem!_pos z.cells _ hl]
    exact okA_iff.1 (okA_noAddr_cells (N := N) (κ := κ) hn) _ (by simp)
  · rw [getElem!_neg z.cells _ (by omega)]
    show okV N κ (default : Value)
    trivial

def aBuildSlice (P : Program) (h : AH) (t : TypeId) (len : Nat) (ps : List (Nat × Value)) : Option (Value × AH) :=
  match P.underlying t with
  | some (.slice el) =>
    match P.info? el, zeroOf P el with
    | some i, some z =>
      if len * i.size ≤ 16777216 then
        match Instr.fill (fun j => some (j * i.size, i.size)) (zlist z (len * i.size)).toArray ps with
        | some cells => some (.slice (some ⟨h.next, 0, none⟩) len len, h.new (.cells ⟨cells.toList, i.size, false⟩))
        | none => none
      else none
    | _, _ => none
  | _ => none
end
end Go.Ev
