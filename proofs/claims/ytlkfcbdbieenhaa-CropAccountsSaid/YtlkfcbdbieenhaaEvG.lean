/-
  A machine for closed runs, seventh part: append and copy.
-/
import Derived.Test.YtlkfcbdbieenhaaEvF
namespace Go.Ev
open Go Go.RowKit

section
variable {P : Program} {w0 w w' : World} {φ φ' : Nat → Nat × Nat} {κ κ' : Nat → Nat} {h h' : AH}

theorem Rel.drawn (R : Rel w0 φ κ h w) (d : Nat) : Rel w0 φ κ h { w with drawn := d } :=
  ⟨⟨R.below.os, R.below.tape, R.below.output, R.below.size, R.below.block⟩, R.hid, R.wl, fun k o g => (R.ent k o g).move (fun _ s => s) (fun _ _ => ⟨rfl, rfl⟩) ⟨rfl, rfl⟩ rfl, R.own, R.inj⟩

/- the first n elements of a slice -/
def aFirst (h : AH) (size n : Nat) : Value → Option (List Value)
  | .slice none _ _ => if n * size = 0 then some [] else none
  | .slice (some ⟨k, o, none⟩) _ _ =>
    if n * size = 0 then some []
    else match h.get k with
      | some (.cells b) => if o + n * size ≤ b.cells.length then some ((b.cells.drop o).take (n * size)) else none
      | _ => none
  | _ => none
theorem aFirst_sound (R : Rel w0 φ κ h w) {size n : Nat} {x : Value} {cs : List Value} (e : aFirst h size n x = some cs) :
    (Builtin.firstCells size n (ren φ κ x)).run P w = .ok (cs.map (ren φ κ)).toArray w ∧ (∀ v ∈ cs, okV h.N κ v) ∧ cs.length = n * size := by
  unfold aFirst at e
  split at e
  · split at e
    · rename_i hz
      injection e with e
      subst e
      exact ⟨rfl, by simp, by simp [hz]⟩
    · cases e
  · rename_i k o ln cp
    split at e
    · rename_i hz
      injection e with e
      subst e
      refine ⟨?_, by simp, by simp [hz]⟩
      simp only [ren, Builtin.firstCells, hz]
      rfl
    · split at e
      · rename_i b g
        split at e
        · rename_i hl
          injection e with e
          subst e
          refine ⟨?_, ?_, by simp; omega⟩
          · simp only [ren, Builtin.firstCells]
            exact R.loadCells g hl
          · intro v hv
            obtain ⟨c, el, h1, h0, h2, h3, _⟩ := R.ent k _ g
            exact h3 v (List.mem_of_mem_drop (List.mem_of_mem_take hv))
        · cases e
      · cases e
  · cases e

theorem growBy_le (newLen B : Nat) (hB : 2 * newLen + 1024 ≤ B) : ∀ (r c : Nat), c ≤ B → Builtin.growBy newLen r c ≤ B := by
  intro r
  induction r with
  | zero => intro c hc; exact hc
  | succ r ih =>
    intro c hc
    simp only [Builtin.growBy]
    split
    · exact hc
    · exact ih _ (by omega)
theorem nextcap_le {need C : Nat} (h : C ≤ need) : Builtin.nextslicecap need C ≤ 2 * need + 1024 := by
  unfold Builtin.nextslicecap
  split
  · omega
  · split
    · omega
    · exact growBy_le need _ (Nat.le_refl _) 4 C (by omega)

def isIntD : TypeDesc → Bool
  | .int _ => true
  | _ => false

def aGrow (h : AH) (size sLen n : Nat) (s x : Value) : Option (Value × AH) :=
  match aFirst h size sLen s, aFirst h size n x with
  | some old, some new => some (.slice (some ⟨h.next, 0, none⟩) (sLen + n) openB, h.new (.cells ⟨old ++ new, size, true⟩))
  | _, _ => none

def aAppend (P : Program) (h : AH) (ts : Array TypeId) (s x : Value) : Option (Value × AH) :=
  match ts[0]?, ts[1]? with
  | some sT, some xT =>
    match P.underlying sT, P.underlying xT, s, x with
    | some (.slice el), some dx, .slice base sLen sCap, .slice _ n _ =>
      match P.info? el, zeroOf P el with
      | some i, some z =>
        if isIntD dx || z.cells.size != i.size || i.bytes == 0 then none
        else if n = 0 then (if sCap < openB ∧ sLen ≤ sCap ∨ openB ≤ sCap ∧ base.isSome = true then some (s, h) else none)
        else if sCap < openB then
          if sLen + n ≤ sCap then
            match base with
            | some ⟨k, o, none⟩ =>
              match h.get k, aFirst h i.size n x with
              | some (.cells b), some new => if h.wlim ≤ k ∧ o + sLen * i.size + n * i.size ≤ b.cells.length ∧ new.all Value.oneCell' = true then some (.slice base (sLen + n) sCap, h.put k (some (.cells { b with cells := writeAt b.cells (o + sLen * i.size) new }))) else none
              | _, _ => none
            | _ => none
          else if Builtin.nextslicecap (sLen + n) sCap * i.bytes ≤ 281474976710656 then aGrow h i.size sLen n s x else none
        else
          match base with
          | some ⟨k, o, none⟩ =>
            match h.get k with
            | some (.cells b) =>
              if h.wlim ≤ k ∧ b.opn = true ∧ b.esz = i.size ∧ o = (sCap - openB) * i.size ∧ (2 * (sLen + n) + 1024) * i.bytes ≤ 281474976710656 then
                match aFirst h i.size sLen s, aFirst h i.size n x with
                | some old, some new => if new.all Value.oneCell' = true then some (.slice (some ⟨h.next, 0, none⟩) (sLen + n) openB, (h.new (.cells ⟨old ++ new, i.size, true⟩)).put k none) else none
                | _, _ => none
              else none
            | _ => none
          | _ => none
      | _, _ => none
    | _, _, _, _ => none
  | _, _ => none

/- growing: a new block -/
theorem aGrow_sound (R : Rel w0 φ κ h w) {ts : Array TypeId} {ty sT xT el : TypeId} {dx : TypeDesc} {i : TypeInfo} {z : Value} {base xb : Option Addr} {sLen sCap n xc C : Nat} {cs : List Value}
    (t0 : ts[0]? = some sT) (t1 : ts[1]? = some xT) (hu : P.underlying sT = some (.slice el)) (hx : P.underlying xT = some dx) (hi : P.info? el = some i) (hz : zeroOf P el = some z) (hd : isIntD dx = false) (hzs : z.cells.size = i.size)
    (old new : List Value) (ho : aFirst h i.size sLen (.slice base sLen sCap) = some old) (hn : aFirst h i.size n (.slice xb n xc) = some new) (hcs : cs = old ++ new)
    (hs : ren φ κ (.slice base sLen sCap) = .slice (base.map fun a => ⟨(φ a.block).1, (φ a.block).2 + a.off, a.spot⟩) sLen C)
    (hC : C < sLen + n) (hby : i.bytes ≠ 0) (hb : Builtin.nextslicecap (sLen + n) C * i.bytes ≤ 281474976710656) :
    ∃ φ' κ' w', (Builtin.append_ ts ty #[ren φ κ (.slice base sLen sCap), ren φ κ (.slice xb n xc)]).run P w = .ok (ren φ' κ' (.slice (some ⟨h.next, 0, none⟩) (sLen + n) openB)) w' ∧ Step w0 φ κ h φ' κ' (h.new (.cells ⟨cs, i.size, true⟩)) w' ∧ okV (h.new (.cells ⟨cs, i.size, true⟩)).N κ' (.slice (some ⟨h.next, 0, none⟩) (sLen + n) openB) := by
  subst hcs
  obtain ⟨hna, i', hi', hz'⟩ := zeroOf_spec hz
  obtain rfl : i = i' := Option.some.inj (hi.symm.trans hi')
  have hq : ∃ nc, sLen + n ≤ nc ∧ (choose (.appendCap (sLen + n) C el)).run P w = .ok nc { w with drawn := w.drawn + 1 } := by
    refine ⟨_, ?_, by simp only [choose, Sem.run, Question.forced]; rfl⟩
    simp only [Question.cut]
    omega
  obtain ⟨nc, hnc, hq⟩ := hq
  obtain ⟨f1, f2, f3⟩ := aFirst_sound (P := P) (R.drawn (w.drawn + 1)) ho
  obtain ⟨g1, g2, g3⟩ := aFirst_sound (P := P) (R.drawn (w.drawn + 1)) hn
  have hzc : Builtin.zeroCells z.cells (nc - (sLen + n)) = (zlist z ((nc - (sLen + n)) * z.cells.size)).toArray := by
    unfold Builtin.zeroCells
    exact range_map_zlist z _
  have hext : (zlist z ((nc - (sLen + n)) * z.cells.size)).length = (nc - (sLen + n)) * i.size := by simp [zlist, hzs]
  have T := (R.drawn (w.drawn + 1)).newCells (cs := old ++ new) (fun v hv => by
    rcases List.mem_append.1 hv with hv | hv
    · exact f2 v hv
    · exact g2 v hv) i.size true nc (w.drawn + 1) el (zlist z ((nc - (sLen + n)) * z.cells.size)) (fun _ => by
      rw [hext, List.length_append, f3, g3, ← Nat.add_mul, ← Nat.add_mul]
      exact Nat.mul_le_mul_right _ (by omega))
  refine ⟨_, _, _, ?_, ⟨T.agr, T.rel, T.next, T.hid, T.wlim, T.keep⟩, ?_⟩
  · rw [hs] at f1 ⊢
    have hxx : ∃ xb' xc', ren φ κ (.slice xb n xc) = .slice xb' n xc' := by cases xb <;> exact ⟨_, _, rfl⟩
    obtain ⟨xb', xc', hxx⟩ := hxx
    rw [hxx] at g1 ⊢
    have hlx : (Builtin.lenOf (.slice xb' n xc')).run P w = .ok n w := rfl
    have hfin : (do let newCap ← choose (.appendCap (sLen + n) C el); askRoom (newCap * i.bytes); let old ← Builtin.firstCells i.size sLen (.slice (base.map fun a => ⟨(φ a.block).1, (φ a.block).2 + a.off, a.spot⟩) sLen C); let new ← Builtin.firstCells i.size n (.slice xb' n xc'); let rest := Builtin.zeroCells (← zeroValue el).cells (newCap - (sLen + n)); pure (.slice (some (← newRow el (old ++ new ++ rest))) (sLen + n) newCap) : Sem Value).run P w = .ok (ren (upd φ h.next (w.heap.size, 0)) (upd κ h.next nc) (.slice (some ⟨h.next, 0, none⟩) (sLen + n) openB)) { w with heap := w.heap.push (.cells ((old ++ new).map (ren φ κ) ++ zlist z ((nc - (sLen + n)) * z.cells.size)).toArray el (0, 0)), drawn := w.drawn + 1 } := by
      rw [Sem.run_bind, hq]
      simp only [Result.andThen_ok, Sem.run_bind, run_askRoom]
      rw [f1]
      simp only [Result.andThen_ok]
      rw [g1]
      simp only [Result.andThen_ok, run_zeroValue' hi hz', hzc, run_newRow', Sem.run_pure]
      simp [ren, upd_same]
    have hgrow : ¬ (Builtin.nextslicecap (sLen + n) C * i.bytes > 2 ^ 48) := by omega
    have hcap : ¬ (sLen + n ≤ C) := by omega
    clear f1 g1 hq T
    unfold Builtin.append_
    simp only [t0, t1, List.getElem?_toArray, List.getElem?_cons_zero, List.getElem?_cons_succ, Sem.run_bind, run_underlying hu, run_underlying hx, Result.andThen_ok, run_sizeOf' hi, Sem.run_pure]
    cases dx <;> first
      | (simp [isIntD] at hd; done)
      | (simp only [Bool.false_eq_true, if_false, Bool.not_false, if_true, hlx, Result.andThen_ok, run_typeInfo' hi, Sem.run_bind, hcap, false_or]
         rw [if_neg (fun hh => hby hh.2)]
         simp only [Sem.run_bind, run_typeInfo' hi, Result.andThen_ok, hgrow, if_false] at hfin ⊢
         exact hfin)
  · simp only [okV, upd_same]
    exact ⟨new_sees_self R.hid, fun _ => by omega⟩

/- in place: into a block that is written -/
theorem append_place {ts : Array TypeId} {ty sT xT el : TypeId} {dx : TypeDesc} {i : TypeInfo} {a : Addr} {sLen n C xc : Nat} {xb : Option Addr} {vs : List Value}
    (t0 : ts[0]? = some sT) (t1 : ts[1]? = some xT) (hu : P.underlying sT = some (.slice el)) (hx : P.underlying xT = some dx) (hi : P.info? el = some i) (hd : isIntD dx = false)
    (hC : sLen + n ≤ C) (g1 : (Builtin.firstCells i.size n (.slice xb n xc)).run P w = .ok vs.toArray w) (hs : (storeCells (a.add (sLen * i.size)) vs).run P w = .ok () w') :
    (Builtin.append_ ts ty #[.slice (some a) sLen C, .slice xb n xc]).run P w = .ok (.slice (some a) (sLen + n) C) w' := by
  have hlx : (Builtin.lenOf (.slice xb n xc)).run P w = .ok n w := rfl
  have hfin : (do let new ← Builtin.firstCells i.size n (.slice xb n xc); storeCells (a.add (sLen * i.size)) new.toList; pure (.slice (some a) (sLen + n) C) : Sem Value).run P w = .ok (.slice (some a) (sLen + n) C) w' := by
    rw [Sem.run_bind, g1]
    simp only [Result.andThen_ok, Sem.run_bind, hs, Sem.run_pure]
  unfold Builtin.append_
  simp only [t0, t1, List.getElem?_toArray, List.getElem?_cons_zero, List.getElem?_cons_succ, Sem.run_bind, run_underlying hu, run_underlying hx, Result.andThen_ok, run_sizeOf' hi, Sem.run_pure]
  cases dx <;> first
    | (simp [isIntD] at hd; done)
    | (simp only [Bool.false_eq_true, if_false, Bool.not_false, if_true, hlx, Result.andThen_ok, Sem.run_bind, hC] at hfin ⊢
       exact hfin)

theorem append_none {ts : Array TypeId} {ty sT xT el : TypeId} {dx : TypeDesc} {i : TypeInfo} {base : Option Addr} {sLen C xc : Nat} {xb : Option Addr}
    (t0 : ts[0]? = some sT) (t1 : ts[1]? = some xT) (hu : P.underlying sT = some (.slice el)) (hx : P.underlying xT = some dx) (hi : P.info? el = some i) (hd : isIntD dx = false)
    (hC : sLen ≤ C) : (Builtin.append_ ts ty #[.slice base sLen C, .slice xb 0 xc]).run P w = .ok (.slice base sLen C) w := by
  have hlx : (Builtin.lenOf (.slice xb 0 xc)).run P w = .ok 0 w := rfl
  have g1 : (Builtin.firstCells i.size 0 (.slice xb 0 xc)).run P w = .ok #[] w := by
    cases xb with
    | none => rfl
    | some b => simp only [Builtin.firstCells, Nat.zero_mul]; rfl
  unfold Builtin.append_
  simp only [t0, t1, List.getElem?_toArray, List.getElem?_cons_zero, List.getElem?_cons_succ, Sem.run_bind, run_underlying hu, run_underlying hx, Result.andThen_ok, run_sizeOf' hi, Sem.run_pure]
  cases dx <;> first
    | (simp [isIntD] at hd; done)
    | (simp only [Bool.false_eq_true, if_false, Bool.not_false, if_true, hlx, Result.andThen_ok, Sem.run_bind, Nat.add_zero, hC, g1]
       cases base <;> simp [storeCells])

theorem Step.ext (S : Step w0 φ κ h φ' κ' h' w') {h2 : AH} (e : ∀ k, h2.tr.get k = h'.tr.get k) (e1 : h2.next = h'.next) (e2 : h2.wlim = h'.wlim) (e3 : h2.hid = h'.hid) : Step w0 φ κ h φ' κ' h2 w' := by
  have hs : ∀ k, h2.sees k = h'.sees k := fun k => by unfold AH.sees; rw [e1, e3]
  have hg : ∀ k, h2.get k = h'.get k := fun k => by unfold AH.get; rw [hs, e]
  have hN : h2.N = h'.N := funext fun k => by unfold AH.N; rw [hs]
  exact ⟨by rw [e1]; exact S.agr, ⟨S.rel.below, by rw [e3, e1]; exact S.rel.hid, by rw [e2, e1]; exact S.rel.wl, fun k o g => by rw [hN]; exact S.rel.ent k o (hg k ▸ g), fun k o g hk => S.rel.own k o (hg k ▸ g) (e2 ▸ hk), fun k k' o o' g g' => S.rel.inj k k' o o' (hg k ▸ g) (hg k' ▸ g')⟩, by rw [e1]; exact S.next, e3.trans S.hid, e2.trans S.wlim, fun k hk => (e k).trans (S.keep k hk)⟩

theorem ren_open_new (φ : Nat → Nat × Nat) (κ : Nat → Nat) (k n : Nat) : ren φ κ (.slice (some ⟨k, 0, none⟩) n openB) = .slice (some ⟨(φ k).1, (φ k).2 + 0, none⟩) n (κ k) := by
  simp only [ren]
  rw [if_neg (Nat.lt_irrefl _), Nat.sub_self, Nat.sub_zero]

/- a block that no name stands for is written -/
theorem Rel.scribble (R : Rel w0 φ κ h w) {g : Nat} {ob : Obj} (hg : w0.heap.size ≤ g) (hfree : ∀ k o', h.get k = some o' → (φ k).1 ≠ g) : Rel w0 φ κ h { w with heap := w.heap.setIfInBounds g ob } :=
  ⟨⟨R.below.os, R.below.tape, R.below.output, by simpa using R.below.size, fun j hj => by
      rw [← R.below.block j hj]
      show (w.heap.setIfInBounds g ob)[j]? = _
      rw [Array.getElem?_setIfInBounds_ne (by omega)]⟩, R.hid, R.wl, fun k o gk => (R.ent k o gk).move (fun _ s => s) (fun _ _ => ⟨rfl, rfl⟩) ⟨rfl, rfl⟩ (by
      show (w.heap.setIfInBounds g ob)[(φ k).1]? = _
      rw [Array.getElem?_setIfInBounds_ne (fun e => hfree k o gk e.symm)]), R.own, R.inj⟩

theorem aFirst_get {k o n size ln cp : Nat} {b : Blk} {cs : List Value} (g : h.get k = some (.cells b)) (e : aFirst h size n (.slice (some ⟨k, o, none⟩) ln cp) = some cs) : ∀ j v, cs[j]? = some v → b.cells[o + j]? = some v := by
  unfold aFirst at e
  simp only [g] at e
  split at e
  · injection e with e; subst e; intro j v hj; simp at hj
  · split at e
    · injection e with e
      subst e
      intro j v hj
      have hlt := (List.getElem?_eq_some_iff.1 hj).1
      rw [List.getElem?_take, if_pos (by simp at hlt; omega), List.getElem?_drop] at hj
      exact hj
    · cases e

theorem aAppend_sound (R : Rel w0 φ κ h w) {ts : Array TypeId} {ty : TypeId} {s x : Value} {r : Value × AH} (e : aAppend P h ts s x = some r) (os : okV h.N κ s) :
    ∃ φ' κ' w', (Builtin.append_ ts ty #[ren φ κ s, ren φ κ x]).run P w = .ok (ren φ' κ' r.1) w' ∧ Step w0 φ κ h φ' κ' r.2 w' ∧ okV r.2.N κ' r.1 := by
  unfold aAppend at e
  split at e
  · rename_i sT xT t0 t1
    split at e
    · rename_i el dx base sLen sCap xb n xc hu hx
      split at e
      · rename_i i z hi hz
        split at e
        · cases e
        · rename_i hc0
          simp only [Bool.or_eq_true, bne_iff_ne, ne_eq, beq_iff_eq, not_or, Classical.not_not, Bool.not_eq_true] at hc0
          obtain ⟨⟨hd, hzs⟩, hby⟩ := hc0
          have hxr : ∃ xb' xc', ren φ κ (.slice xb n xc) = .slice xb' n xc' := by cases xb <;> exact ⟨_, _, rfl⟩
          obtain ⟨xb', xc', hxr⟩ := hxr
          split at e
          · rename_i hn0
            split at e
            · rename_i hor
              injection e with e
              subst e
              subst hn0
              refine ⟨φ, κ, w, ?_, R.step, os⟩
              rw [hxr]
              cases base with
              | none =>
                have hr : ren φ κ (.slice none sLen sCap) = .slice none sLen sCap := by simp [ren]
                rw [hr]
                refine append_none t0 t1 hu hx hi hd ?_
                rcases hor with hor | hor
                · exact hor.2
                · simp at hor
              | some a =>
                simp only [ren]
                refine append_none t0 t1 hu hx hi hd ?_
                simp only [okV] at os
                by_cases hcl : sCap < openB
                · rw [if_pos hcl]; omega
                · rw [if_neg hcl]; have := os.2 (by omega); omega
            · cases e
          · rename_i hn0
            split at e
            · rename_i hcl
              split at e
              · rename_i hroom
                split at e
                · rename_i k o
                  split at e
                  · rename_i b new g hf
                    split at e
                    · rename_i hcond
                      obtain ⟨c1, c2, c3⟩ := hcond
                      injection e with e
                      subst e
                      obtain ⟨g1, g2, g3⟩ := aFirst_sound (P := P) R hf
                      obtain ⟨w', hr, hs⟩ := R.storeCells (P := P) (k := k) (o := o + sLen * i.size) (vs := new) g c1 (by rw [g3]; exact c2) c3 g2
                      refine ⟨φ, κ, w', ?_, hs, ?_⟩
                      · rw [hxr] at g1 ⊢
                        have h1 : ∀ m, ren φ κ (.slice (some ⟨k, o, none⟩) m sCap) = .slice (some ⟨(φ k).1, (φ k).2 + o, none⟩) m sCap := fun m => by simp [ren, hcl]
                        rw [h1, h1]
                        refine append_place t0 t1 hu hx hi hd hroom g1 ?_
                        rw [add_none, Nat.add_assoc]
                        exact hr
                      · simp only [okV] at os ⊢
                        exact ⟨os.1, fun e => by omega⟩
                    · cases e
                  · cases e
                · cases e
              · rename_i hroom
                split at e
                · rename_i hbnd
                  unfold aGrow at e
                  split at e
                  · rename_i old new ho hn
                    injection e with e
                    subst e
                    refine aGrow_sound R t0 t1 hu hx hi hz hd hzs old new ho hn rfl ?_ (by omega) hby hbnd
                    cases base <;> simp [ren, hcl]
                  · cases e
                · cases e
            · rename_i hcl
              split at e
              · rename_i k o
                split at e
                · rename_i b g
                  split at e
                  · rename_i hcond
                    obtain ⟨c1, c2, c3, c4, c5⟩ := hcond
                    split at e
                    · rename_i old new ho hn
                      split at e
                      · rename_i hone
                        injection e with e
                        subst e
                        obtain ⟨g1, g2, g3⟩ := aFirst_sound (P := P) R hn
                        obtain ⟨_, o2, o3⟩ := aFirst_sound (P := P) R ho
                        simp only [okV] at os
                        have osk := os.2 (by omega)
                        have hkne : k ≠ h.next := fun e => by have := sees_lt (get_sees g); omega
                        by_cases hroom : sLen + n ≤ κ k - (sCap - openB)
                        · obtain ⟨c, cel, e1, e0, e2, e3, e4⟩ := R.ent k _ g
                          have e4' := e4 c2
                          rw [c3] at e4'
                          have hsum : o + (κ k - (sCap - openB)) * i.size = κ k * i.size := by
                            rw [c4, ← Nat.add_mul]
                            congr 1
                            omega
                          have hfits : sLen * i.size + n * i.size ≤ (κ k - (sCap - openB)) * i.size := by
                            rw [← Nat.add_mul]
                            exact Nat.mul_le_mul_right _ hroom
                          have hf' : ∀ v ∈ new.map (ren φ κ), v.oneCell' = true := by
                            intro v hv
                            obtain ⟨u, hu', rfl⟩ := List.mem_map.1 hv
                            rw [one_ren]
                            exact List.all_eq_true.1 hone u hu'
                          have hrun := run_storeCells_at P (φ k).1 ((φ k).2 + o + sLen * i.size) cel (new.map (ren φ κ)) 0 c w e1 (by simp; omega) hf'
                          rw [setRow_set e1] at hrun
                          have hlt := (R.ent k _ g).lt
                          have hK := R.kill g c1
                          have hfree : ∀ k' o', (h.put k none).get k' = some o' → (φ k').1 ≠ (φ k).1 := by
                            intro k' o' g' e
                            rw [put_get (get_sees g)] at g'
                            by_cases ek : k' = k
                            · rw [if_pos ek] at g'; cases g'
                            · rw [if_neg ek] at g'; exact ek (R.inj k' k _ _ g' g e)
                          have hS := hK.rel.scribble (g := (φ k).1) (ob := .cells (c.toList.take ((φ k).2 + o + sLen * i.size + 0) ++ new.map (ren φ κ) ++ c.toList.drop ((φ k).2 + o + sLen * i.size + 0 + (new.map (ren φ κ)).length)).toArray cel (0, 0)) (R.own k _ g c1) hfree
                          have hne : ∀ j, h.sees j = true → j ≠ h.next := fun j s e => by have := sees_lt s; omega
                          have hent : entOK (upd φ h.next ((φ k).1, (φ k).2 + o)) (upd κ h.next (κ k - (sCap - openB))) ((h.put k none).new (.cells ⟨old ++ new, i.size, true⟩)).N { w with heap := w.heap.setIfInBounds (φ k).1 (.cells (c.toList.take ((φ k).2 + o + sLen * i.size + 0) ++ new.map (ren φ κ) ++ c.toList.drop ((φ k).2 + o + sLen * i.size + 0 + (new.map (ren φ κ)).length)).toArray cel (0, 0)) } h.next (.cells ⟨old ++ new, i.size, true⟩) := by
                            refine ⟨(c.toList.take ((φ k).2 + o + sLen * i.size + 0) ++ new.map (ren φ κ) ++ c.toList.drop ((φ k).2 + o + sLen * i.size + 0 + (new.map (ren φ κ)).length)).toArray, cel, ?_, ?_, fun j v hj => ?_, fun v hv => ?_, fun _ => ?_⟩
                            · rw [upd_same]
                              exact Array.getElem?_setIfInBounds_self_of_lt hlt
                            · rw [upd_same]
                              simp only [List.size_toArray, List.length_append, List.length_take, List.length_drop, List.length_map, Array.length_toList]
                              omega
                            · rw [upd_same]
                              have hvo : okV h.N κ v := by
                                rcases List.mem_append.1 (List.mem_of_getElem? hj) with hv | hv
                                · exact o2 v hv
                                · exact g2 v hv
                              rw [ren_congr (N := h.N) (fun k s => ⟨upd_ne _ _ (hne k s), upd_ne _ _ (hne k s)⟩) v hvo]
                              simp only [List.getElem?_toArray]
                              have ew := writeAt_get (l := c.toList) (vs := new.map (ren φ κ)) (o := (φ k).2 + o + sLen * i.size) (by simp; omega) ((φ k).2 + o + j)
                              unfold writeAt at ew
                              simp only [Nat.add_zero]
                              rw [ew]
                              have hj' : (old ++ new)[j]? = some v := hj
                              by_cases hjo : j < old.length
                              · rw [List.getElem?_append_left hjo] at hj'
                                rw [if_neg (by simp; omega)]
                                have := e2 _ _ (aFirst_get g ho j v hj')
                                rw [← Nat.add_assoc] at this
                                simpa using this
                              · rw [List.getElem?_append_right (by omega)] at hj'
                                have hjn := (List.getElem?_eq_some_iff.1 hj').1
                                rw [if_pos (by simp; omega), List.getElem?_map, show (φ k).2 + o + j - ((φ k).2 + o + sLen * i.size) = j - old.length from by omega, hj']
                                rfl
                            · have hvo : okV h.N κ v := by
                                rcases List.mem_append.1 hv with hv | hv
                                · exact o2 v hv
                                · exact g2 v hv
                              exact ok_mono (fun _ s => new_sees (h := h.put k none) s) (fun j s => upd_ne _ _ (hne j s)) v hvo
                            · rw [upd_same, upd_same]
                              simp only [List.size_toArray, List.length_append, List.length_take, List.length_drop, List.length_map, Array.length_toList]
                              omega
                          have T := hS.name (o := .cells ⟨old ++ new, i.size, true⟩) (p := ((φ k).1, (φ k).2 + o)) (K := κ k - (sCap - openB)) (R.own k _ g c1) hfree hent
                          have T2 := (hK.trans (Step.trans ⟨fun _ _ => ⟨rfl, rfl⟩, hS, Nat.le_refl _, rfl, rfl, fun _ _ => rfl⟩ T)).ext (h2 := (h.new (.cells ⟨old ++ new, i.size, true⟩)).put k none) (fun j => by
                            rw [put_tr, new_tr, new_tr, put_tr, put_next]
                            simp only [Tr.get_put]
                            by_cases j1 : j = k
                            · rw [if_pos j1, if_neg (by omega), if_pos j1]
                            · rw [if_neg j1, if_neg j1]) (by rw [put_next, new_next, new_next, put_next]) (by rw [put_wlim, new_wlim, new_wlim, put_wlim]) (by rw [put_hid, new_hid, new_hid, put_hid])
                          refine ⟨_, _, _, ?_, T2, ?_⟩
                          · rw [hxr] at g1 ⊢
                            have h1 : ren φ κ (.slice (some ⟨k, o, none⟩) sLen sCap) = .slice (some ⟨(φ k).1, (φ k).2 + o, none⟩) sLen (κ k - (sCap - openB)) := by simp [ren, hcl]
                            have h2 : ren (upd φ h.next ((φ k).1, (φ k).2 + o)) (upd κ h.next (κ k - (sCap - openB))) (.slice (some ⟨h.next, 0, none⟩) (sLen + n) openB) = .slice (some ⟨(φ k).1, (φ k).2 + o, none⟩) (sLen + n) (κ k - (sCap - openB)) := by rw [ren_open_new, upd_same, upd_same]; rfl
                            rw [h1]
                            rw [show (h.put k none).next = h.next from rfl]
                            dsimp only
                            rw [h2]
                            refine append_place t0 t1 hu hx hi hd hroom g1 (by rw [add_none]; exact hrun)
                          · dsimp only
                            rw [put_N]
                            simp only [okV]
                            refine ⟨new_sees_self (h := h) (o := .cells ⟨old ++ new, i.size, true⟩) R.hid, fun _ => ?_⟩
                            show openB - openB + (sLen + n) ≤ upd κ h.next (κ k - (sCap - openB)) h.next
                            rw [upd_same]
                            omega
                        · have hbnd : Builtin.nextslicecap (sLen + n) (κ k - (sCap - openB)) * i.bytes ≤ 281474976710656 := Nat.le_trans (Nat.mul_le_mul_right _ (nextcap_le (by omega))) c5
                          obtain ⟨φ', κ', w', q1, q2, q3⟩ := aGrow_sound R (ty := ty) t0 t1 hu hx hi hz hd hzs old new ho hn rfl (C := κ k - (sCap - openB)) (by simp [ren, hcl]) (by omega) hby hbnd
                          have gk : (h.new (.cells ⟨old ++ new, i.size, true⟩)).get k = some (.cells b) := by rw [new_get R.hid, if_neg hkne]; exact g
                          have hN := put_N (h.new (.cells ⟨old ++ new, i.size, true⟩)) k none
                          refine ⟨φ', κ', w', q1, q2.trans (q2.rel.kill gk c1), ?_⟩
                          rw [hN]
                          exact q3
                      · cases e
                    · cases e
                  · cases e
                · cases e
              · cases e
      · cases e
    · cases e
  · cases e

def aCopy (P : Program) (h : AH) (ts : Array TypeId) (d x : Value) : Option (Value × AH) :=
  match ts[0]? with
  | some dT =>
    match P.underlying dT, d, x with
    | some (.slice el), .slice (some ⟨k, o, none⟩) dl _, .slice _ sl _ =>
      match P.info? el, h.get k with
      | some i, some (.cells b) =>
        match aFirst h i.size (Nat.min sl dl) x with
        | some cs => if h.wlim ≤ k ∧ o + cs.length ≤ b.cells.length ∧ cs.all Value.oneCell' = true then some (.int .i64 (Nat.min sl dl), h.put k (some (.cells { b with cells := writeAt b.cells o cs }))) else none
        | none => none
      | _, _ => none
    | _, _, _ => none
  | none => none
theorem aCopy_sound (R : Rel w0 φ κ h w) {ts : Array TypeId} {ty : TypeId} {d x : Value} {r : Value × AH} (e : aCopy P h ts d x = some r) :
    ∃ φ' κ' w', (Builtin.copy_ ts ty #[ren φ κ d, ren φ κ x]).run P w = .ok (ren φ' κ' r.1) w' ∧ Step w0 φ κ h φ' κ' r.2 w' ∧ okV r.2.N κ' r.1 := by
  unfold aCopy at e
  split at e
  · rename_i dT t0
    split at e
    · rename_i el k o dl dc sb sl sc hu
      split at e
      · rename_i i b hi g
        split at e
        · rename_i cs hf
          split at e
          · rename_i hc
            obtain ⟨c1, c2, c3⟩ := hc
            injection e with e
            subst e
            obtain ⟨g1, g2, g3⟩ := aFirst_sound (P := P) R hf
            obtain ⟨w', hr, hs⟩ := R.storeCells (P := P) (k := k) (o := o) (vs := cs) g c1 c2 c3 g2
            refine ⟨φ, κ, w', ?_, hs, by simp [okV]⟩
            have hxr : ∃ xb' xc', ren φ κ (.slice sb sl sc) = .slice xb' sl xc' := by cases sb <;> exact ⟨_, _, rfl⟩
            obtain ⟨xb', xc', hxr⟩ := hxr
            rw [hxr] at g1 ⊢
            have hlx : (Builtin.lenOf (.slice xb' sl xc')).run P w = .ok sl w := rfl
            unfold Builtin.copy_
            simp only [ren, t0, List.getElem?_toArray, List.getElem?_cons_zero, List.getElem?_cons_succ, Sem.run_bind, run_underlying hu, Result.andThen_ok, run_sizeOf' hi, hlx, g1, hr, Sem.run_pure]
            rfl
          · cases e
        · cases e
      · cases e
    · cases e
  · cases e
end
end Go.Ev
