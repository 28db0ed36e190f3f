/-
  A machine for closed runs, fourth part: the operations that touch no other call.
-/
import Derived.Test.YtlkfcbdbieenhaaEvC
namespace Go.Ev
open Go Go.RowKit

section
variable {P : Program} {w0 w w' : World} {φ φ' : Nat → Nat × Nat} {κ κ' : Nat → Nat} {h h' : AH}

/- a new block of cells -/
theorem Rel.newCells (R : Rel w0 φ κ h w) {cs : List Value} (hcs : ∀ v ∈ cs, okV h.N κ v) (esz : Nat) (opn : Bool) (K d : Nat) (el : TypeId) (ext : List Value) (hK : opn = true → K * esz ≤ cs.length + ext.length) :
    Step w0 φ κ h (upd φ h.next (w.heap.size, 0)) (upd κ h.next K) (h.new (.cells ⟨cs, esz, opn⟩)) { w with heap := w.heap.push (.cells (cs.map (ren φ κ) ++ ext).toArray el (0, 0)), drawn := d } := by
  have hne : ∀ k, h.sees k = true → k ≠ h.next := fun k s e => by have := sees_lt s; omega
  refine R.push rfl ⟨(cs.map (ren φ κ) ++ ext).toArray, el, ?_, ?_, fun j v hj => ?_, fun v hv => ?_, fun ho => ?_⟩
  · rw [upd_same]
    show (w.heap.push _)[w.heap.size]? = _
    simp
  · rw [upd_same]; simp
  · rw [upd_same]
    simp only [Nat.zero_add, List.getElem?_toArray]
    have hlt := (List.getElem?_eq_some_iff.1 hj).1
    have hj' : cs[j]? = some v := hj
    rw [List.getElem?_append_left (by simpa using hlt), List.getElem?_map, hj', Option.map_some, ren_congr (N := h.N) (fun k s => ⟨upd_ne _ _ (hne k s), upd_ne _ _ (hne k s)⟩) v (hcs v (List.mem_of_getElem? hj'))]
  · exact ok_mono (fun _ s => new_sees s) (fun k s => upd_ne _ _ (hne k s)) v (hcs v hv)
  · rw [upd_same, upd_same]
    have := hK ho
    simp only [List.size_toArray, List.length_append, List.length_map]
    omega

theorem run_newRow' (el : TypeId) (cells : Array Value) (w : World) : (newRow el cells).run P w = .ok ⟨w.heap.size, 0, none⟩ { w with heap := w.heap.push (.cells cells el (0, 0)) } := by
  simp [newRow, newObj, Sem.run]

def pt (k : Nat) : Value := .pointer (some ⟨k, 0, none⟩)

/- 'new' with cells that are known -/
theorem Rel.row (R : Rel w0 φ κ h w) {cs : List Value} (hcs : ∀ v ∈ cs, okV h.N κ v) (el : TypeId) (esz : Nat) :
    ∃ φ' κ' w', (newRow el (cs.map (ren φ κ)).toArray).run P w = .ok ⟨(φ' h.next).1, 0, none⟩ w' ∧ (φ' h.next).2 = 0 ∧ Step w0 φ κ h φ' κ' (h.new (.cells ⟨cs, esz, false⟩)) w' ∧ (h.new (.cells ⟨cs, esz, false⟩)).N h.next := by
  have := R.newCells hcs esz false 0 w.drawn el [] (fun e => by cases e)
  rw [List.append_nil] at this
  refine ⟨_, _, _, ?_, ?_, this, new_sees_self R.hid⟩
  · rw [run_newRow', upd_same]
  · rw [upd_same]

theorem cells_oneCell : ∀ (v : Value), v.oneCell' = true → v.cells = #[v]
  | .agg _, h => by simp [Value.oneCell'] at h
  | .tuple _, _ => rfl
  | .bool _, _ | .int _ _, _ | .float _ _, _ | .complex _ _ _, _ | .string _, _ | .pointer _, _ | .slice _ _ _, _ | .map _, _ | .chan _, _ | .func _ _ _, _ | .nilFunc, _ | .iface _ _, _ | .nilIface, _ => rfl

/- box, alloc -/
def aBox (h : AH) (v : Value) : Value × AH := (pt h.next, h.new (.cells ⟨v.cells.toList, 1, false⟩))

theorem aBox_sound (R : Rel w0 φ κ h w) {el : TypeId} {v : Value} (o : okV h.N κ v) :
    ∃ φ' κ' w', (Instr.box el (ren φ κ v)).run P w = .ok (ren φ' κ' (aBox h v).1) w' ∧ Step w0 φ κ h φ' κ' (aBox h v).2 w' ∧ okV (aBox h v).2.N κ' (aBox h v).1 := by
  obtain ⟨φ', κ', w', h1, h2, h3, h4⟩ := R.row (P := P) (cs := v.cells.toList) (ok_cells o) el 1
  refine ⟨φ', κ', w', ?_, h3, ?_⟩
  · unfold Instr.box newVar
    have e : ((v.cells.toList.map (ren φ κ)).toArray) = (ren φ κ v).cells := by
      rw [ren_cells]
      apply Array.ext'
      simp
    rw [e] at h1
    rw [Sem.run_bind, h1]
    simp [aBox, pt, ren, h2]
  · simpa [aBox, pt, okV] using h4

def zeroOf (P : Program) (t : TypeId) : Option Value :=
  match P.info? t with
  | some i => match i.zero with
    | some z => if noAddr z then some z else none
    | none => none
  | none => none
theorem zeroOf_spec {t : TypeId} {z : Value} (e : zeroOf P t = some z) : noAddr z = true ∧ ∃ i, P.info? t = some i ∧ i.zero = some z := by
  unfold zeroOf at e
  split at e
  · rename_i i hi
    split at e
    · rename_i z' hz
      split at e
      · rename_i hn
        injection e with e
        subst e
        exact ⟨hn, i, hi, hz⟩
      · cases e
    · cases e
  · cases e

def aAlloc (P : Program) (h : AH) (t : TypeId) : Option (Value × AH) := (zeroOf P t).map (aBox h)
theorem aAlloc_sound (R : Rel w0 φ κ h w) {t : TypeId} {r : Value × AH} (e : aAlloc P h t = some r) :
    ∃ φ' κ' w', (Instr.alloc t true (.tuple #[])).run P w = .ok (ren φ' κ' r.1) w' ∧ Step w0 φ κ h φ' κ' r.2 w' ∧ okV r.2.N κ' r.1 := by
  unfold aAlloc at e
  cases hz : zeroOf P t with
  | none => rw [hz] at e; cases e
  | some z =>
    rw [hz] at e
    injection e with e
    subst e
    obtain ⟨hn, i, hi, hz'⟩ := zeroOf_spec hz
    obtain ⟨φ', κ', w', h1, h2, h3⟩ := aBox_sound (P := P) R (el := t) (ok_noAddr h.N κ z hn)
    refine ⟨φ', κ', w', ?_, h2, h3⟩
    rw [ren_noAddr _ _ _ hn] at h1
    unfold Instr.box at h1
    unfold Instr.alloc
    rw [Sem.run_bind, run_zeroValue' hi hz']
    exact h1

/- store -/
def aStore (P : Program) (h : AH) (t : TypeId) (a v : Value) : Option AH :=
  match a with
  | .pointer (some ⟨k, o, none⟩) =>
    match h.get k, P.info? t with
    | some (.cells b), some i =>
      if v.cells.size = i.size ∧ o + i.size ≤ b.cells.length ∧ h.wlim ≤ k ∧ v.cells.toList.all Value.oneCell' = true then some (h.put k (some (.cells { b with cells := writeAt b.cells o v.cells.toList }))) else none
    | _, _ => none
  | _ => none
theorem aStore_sound (R : Rel w0 φ κ h w) {t : TypeId} {a v : Value} (e : aStore P h t a v = some h') (o : okV h.N κ v) :
    ∃ w', (Instr.storeAt t (ren φ κ a) (ren φ κ v)).run P w = .ok () w' ∧ Step w0 φ κ h φ κ h' w' := by
  unfold aStore at e
  split at e
  · rename_i k off
    split at e
    · rename_i b i g hi
      split at e
      · rename_i hc
        obtain ⟨h1, h2, h3, h4⟩ := hc
        injection e with e
        subst e
        obtain ⟨w', hr, hs⟩ := R.storeCells (P := P) (k := k) (o := off) (vs := v.cells.toList) g h3 (by simpa [h1] using h2) h4 (ok_cells o)
        refine ⟨w', ?_, hs⟩
        unfold Instr.storeAt storeVar
        simp only [ren, Instr.sureAddr, Sem.run_bind, Sem.run_pure, Result.andThen_ok, run_sizeOf' hi]
        rw [if_neg (by rw [ren_cells]; simp [h1])]
        rw [ren_cells, Array.toList_map]
        exact hr
      · cases e
    · cases e
  · cases e

/- addresses -/
def fieldOf (P : Program) (s : TypeId) (f : Nat) : Option Field :=
  match P.underlying s with
  | some (.struct fields) => fields[f]?
  | _ => none
def aFieldAddr (P : Program) (s : TypeId) (f : Nat) (a : Value) : Option Value :=
  match a, fieldOf P s f with
  | .pointer (some a), some fd =>
    match P.info? fd.type with
    | some i => if i.size = 0 then none else some (.pointer (some (a.add fd.offset)))
    | none => none
  | _, _ => none
theorem ren_add (φ : Nat → Nat × Nat) (κ : Nat → Nat) (a : Addr) (n : Nat) : ren φ κ (.pointer (some (a.add n))) = .pointer (some ((⟨(φ a.block).1, (φ a.block).2 + a.off, a.spot⟩ : Addr).add n)) := by
  simp only [ren]
  unfold Addr.add
  split <;> simp [Nat.add_assoc]
theorem add_block (a : Addr) (n : Nat) : (a.add n).block = a.block := by unfold Addr.add; split <;> rfl
theorem aFieldAddr_sound {N : Nat → Prop} {s : TypeId} {f : Nat} {a v : Value} (e : aFieldAddr P s f a = some v) (o : okV N κ a) :
    (Instr.fieldAt s (ren φ κ a) f).run P w = .ok (ren φ κ v) w ∧ okV N κ v := by
  unfold aFieldAddr at e
  split at e
  · rename_i a fd hf
    split at e
    · rename_i i hi
      split at e
      · cases e
      · rename_i hz
        injection e with e
        subst e
        unfold fieldOf at hf
        split at hf
        · rename_i fields hu
          refine ⟨?_, ?_⟩
          · rw [ren_add]
            unfold Instr.fieldAt
            simp only [Sem.run_bind, run_underlying hu, Result.andThen_ok, hf]
            simp [ren, Instr.sureAddr, Sem.run_bind, fieldPlace, run_sizeOf' hi, hz]
          · simp only [okV, add_block] at o ⊢
            exact o
        · cases hf
    · cases e
  · cases e

def aIndexAddr (P : Program) (t : TypeId) (x i : Value) : Option Value :=
  match x, i, P.underlying t with
  | .slice (some a) n _, .int _ i, some (.slice e) =>
    match P.info? e with
    | some f => if 0 ≤ i ∧ i < (n : Int) then some (.pointer (some (a.add (i.toNat * f.size)))) else none
    | none => none
  | .pointer (some a), .int _ i, some (.array n e) =>
    match P.info? e with
    | some f => if 0 ≤ i ∧ i < (n : Int) then some (.pointer (some (a.add (i.toNat * f.size)))) else none
    | none => none
  | _, _, _ => none
theorem aIndexAddr_sound {N : Nat → Prop} {t : TypeId} {x i v : Value} (e : aIndexAddr P t x i = some v) (o : okV N κ x) :
    (Instr.indexAt t (ren φ κ x) (ren φ κ i)).run P w = .ok (ren φ κ v) w ∧ okV N κ v := by
  unfold aIndexAddr at e
  split at e
  · rename_i a n c kk i el hu
    split at e
    · rename_i f hf
      split at e
      · rename_i hi
        injection e with e
        subst e
        refine ⟨?_, ?_⟩
        · rw [ren_add]
          unfold Instr.indexAt
          simp [ren, asIntOf, Sem.run_bind, run_underlying hu, hi, run_sizeOf' hf]
        · simp only [okV, add_block] at o ⊢
          exact o.1
      · cases e
    · cases e
  · rename_i a kk i n el hu
    split at e
    · rename_i f hf
      split at e
      · rename_i hi
        injection e with e
        subst e
        refine ⟨?_, ?_⟩
        · rw [ren_add]
          unfold Instr.indexAt
          simp [ren, asIntOf, Instr.sureAddr, Sem.run_bind, run_underlying hu, hi, run_sizeOf' hf]
        · simp only [okV, add_block] at o ⊢
          exact o
      · cases e
    · cases e
  · cases e
end
end Go.Ev
