/-
  Walks on memory by names: an append to an open row in a region that draws its order (Mx).
-/
import Derived.Test.YthoigkgjidcklaaMa
set_option linter.unusedSimpArgs false
set_option linter.unusedVariables false
namespace Go.Vm
open Go Go.RowKit

def isApp : Op → Bool
  | .call c => match c.callee with
    | .builtin .append => true
    | _ => false
  | _ => false

/- the open row that an append takes the name of -/
def killName (g : AH) (ρ : Env) (o : Oper) : Option Nat := match o.op with
  | .call c => match c.callee, aArgs ρ c.args.toList with
    | .builtin .append, some [.slice (some ⟨k, off, none⟩) n cp, _] => if openB ≤ cp then match g.get k with
      | some (.cells b) => if b.cells.length ≤ off + n * b.esz then some k else none
      | _ => none
      else none
    | _, _ => none
  | _ => none

structure KOut (φ : Nat → Nat × Nat) (κ : Nat → Nat) (g : AH) (k : Nat) (b nb : Blk) (w : World) (φ' : Nat → Nat × Nat) (κ' : Nat → Nat) (w' : World) : Prop where
  agr : Agree g.next (g.next + 1) φ κ φ' κ'
  os : w'.os = w.os
  tape : w'.tape = w.tape
  output : w'.output = w.output
  size : w.heap.size ≤ w'.heap.size
  blk : ∀ x, x < w.heap.size → (κ k ≠ 0 → x ≠ (φ k).1) → w'.heap[x]? = w.heap[x]?
  old : entOK φ κ g.N w' k (.cells b)
  new : entOK φ' κ' (g.new (.cells nb)).N w' g.next (.cells nb)
  loc : κ' g.next ≠ 0 → (κ k ≠ 0 ∧ (φ' g.next).1 = (φ k).1) ∨ w.heap.size ≤ (φ' g.next).1

section
variable {P : Program} {w0 w w' : World} {φ φ' : Nat → Nat × Nat} {κ κ' : Nat → Nat} {h h' g : AH} {ρ : Env} {v : Value}

theorem get_wl (g : AH) (wl : Nat) : ({ g with wlim := wl } : AH).get = g.get := rfl
theorem first_wl (g : AH) (wl size n : Nat) (x : Value) : aFirst { g with wlim := wl } size n x = aFirst g size n x := rfl

theorem aAppend_kill {ts : Array TypeId} {ty : TypeId} {s x : Value} {k off n0 cp : Nat} {b : Blk} (hs : s = .slice (some ⟨k, off, none⟩) n0 cp) (hcp : openB ≤ cp) (hgb : g.get k = some (.cells b)) (hlen : b.cells.length ≤ off + n0 * b.esz) (hnx : h'.next = g.next + 1) (e : aAppend P g ts s x = some (v, h')) :
    g.wlim ≤ k ∧ ∃ nb : Blk, h' = (g.new (.cells nb)).put k none ∧ ∀ (φ : Nat → Nat × Nat) (κ : Nat → Nat) (w : World), Rel w φ κ { g with wlim := g.next } w → okV g.N κ s →
      ∃ φ' κ' w', (Builtin.append_ ts ty #[ren φ κ s, ren φ κ x]).run P w = .ok (ren φ' κ' v) w' ∧ okV (g.new (.cells nb)).N κ' v ∧ KOut φ κ g k b nb w φ' κ' w' := by
  subst hs
  unfold aAppend at e
  split at e
  · rename_i sT xT t0 t1
    split at e
    · rename_i el dx base sLen sCap xb n xc hu hx he2
      cases he2
      split at e
      · rename_i i z hi hz
        split at e
        · cases e
        · rename_i hc0
          simp only [Bool.or_eq_true, bne_iff_ne, ne_eq, beq_iff_eq, not_or, Classical.not_not, Bool.not_eq_true] at hc0
          obtain ⟨⟨⟨hd, hzs⟩, hby⟩, hsz⟩ := hc0
          split at e
          · rename_i hn0
            split at e
            · injection e with e
              simp only [Prod.mk.injEq] at e
              rw [← e.2] at hnx
              omega
            · cases e
          · rename_i hn0
            split at e
            · omega
            · rename_i hcl
              split at e
              · rename_i k' o' heq
                cases heq
                split at e
                · rename_i b' gg
                  obtain rfl : b = b' := by rw [gg] at hgb; injection hgb with e; injection e with e; exact e.symm
                  split at e
                  · rename_i hcond
                    obtain ⟨c1, c2, c3, c4, c5⟩ := hcond
                    split at e
                    · rename_i old new ho hn
                      split at e
                      · rename_i hone
                        injection e with e
                        simp only [Prod.mk.injEq] at e
                        obtain ⟨rfl, rfl⟩ := e
                        refine ⟨c1, _, rfl, fun φ κ w R os => ?_⟩
                        have hxr : ∃ xb' xc', ren φ κ (.slice xb n xc) = .slice xb' n xc' := ren_sl _ _ _
                        obtain ⟨xb', xc', hxr⟩ := hxr
                        have ggr : ({ g with wlim := g.next } : AH).get k = some (.cells b) := gg
                        obtain ⟨g1, g2, g3⟩ := aFirst_sound (P := P) R (size := i.size) (n := n) (x := .slice xb n xc) (cs := new) (by rw [first_wl]; exact hn)
                        obtain ⟨_, o2, o3⟩ := aFirst_sound (P := P) R (size := i.size) (n := n0) (x := .slice (some ⟨k, off, none⟩) n0 cp) (cs := old) (by rw [first_wl]; exact ho)
                        have os' := os
                        simp only [okV] at os
                        have osk := os.2.2 (by omega)
                        have hkne : k ≠ g.next := fun e => by have := sees_lt (get_sees gg); omega
                        have hne : ∀ j, g.sees j = true → j ≠ g.next := fun j s e => by have := sees_lt s; omega
                        by_cases hroom : n0 + n ≤ κ k - 1 - (cp - openB)
                        · have hk0 : κ k ≠ 0 := by omega
                          have E0 := R.ent k _ ggr
                          obtain ⟨c, cel, fz, e1, e1z, e0, e2, e3, e4⟩ := E0.2 hk0
                          obtain rfl := e1z (by rw [c3]; exact hsz)
                          have e4' := e4 c2
                          rw [c3] at e4'
                          have hsum : off + (κ k - 1 - (cp - openB)) * i.size = (κ k - 1) * i.size := by
                            rw [c4, ← Nat.add_mul]
                            congr 1
                            omega
                          have hfits : n0 * i.size + n * i.size ≤ (κ k - 1 - (cp - openB)) * i.size := by
                            rw [← Nat.add_mul]
                            exact Nat.mul_le_mul_right _ hroom
                          have hf' : ∀ v ∈ new.map (ren φ κ), v.oneCell' = true := by
                            intro v hv
                            obtain ⟨u, hu', rfl⟩ := List.mem_map.1 hv
                            rw [one_ren]
                            exact List.all_eq_true.1 hone u hu'
                          have hrun := run_storeCells_at P (φ k).1 ((φ k).2 + off + n0 * i.size) cel (new.map (ren φ κ)) 0 c w e1 (by simp; omega) hf'
                          rw [setRow_set e1] at hrun
                          have hlt := E0.lt (o := .cells b) hk0
                          have hset := Array.getElem?_setIfInBounds_self_of_lt (xs := w.heap) (i := (φ k).1) (a := Obj.cells (c.toList.take ((φ k).2 + off + n0 * i.size + 0) ++ new.map (ren φ κ) ++ c.toList.drop ((φ k).2 + off + n0 * i.size + 0 + (new.map (ren φ κ)).length)).toArray cel (0, 0)) hlt
                          have hcell : ∀ j, (c.toList.take ((φ k).2 + off + n0 * i.size + 0) ++ new.map (ren φ κ) ++ c.toList.drop ((φ k).2 + off + n0 * i.size + 0 + (new.map (ren φ κ)).length))[j]? = if (φ k).2 + off + n0 * i.size ≤ j ∧ j < (φ k).2 + off + n0 * i.size + new.length then (new.map (ren φ κ))[j - ((φ k).2 + off + n0 * i.size)]? else c.toList[j]? := by
                            intro j
                            have ew := writeAt_get (l := c.toList) (vs := new.map (ren φ κ)) (o := (φ k).2 + off + n0 * i.size) (by simp; omega) j
                            unfold writeAt at ew
                            simp only [List.length_map] at ew
                            simp only [Nat.add_zero, List.length_map]
                            exact ew
                          have hsz2 : (c.toList.take ((φ k).2 + off + n0 * i.size + 0) ++ new.map (ren φ κ) ++ c.toList.drop ((φ k).2 + off + n0 * i.size + 0 + (new.map (ren φ κ)).length)).length = c.size := by
                            simp only [List.length_append, List.length_take, List.length_drop, List.length_map, Array.length_toList]
                            omega
                          generalize hcc : (c.toList.take ((φ k).2 + off + n0 * i.size + 0) ++ new.map (ren φ κ) ++ c.toList.drop ((φ k).2 + off + n0 * i.size + 0 + (new.map (ren φ κ)).length)) = cc at hrun hset hcell hsz2
                          have hent : entOK (upd φ g.next ((φ k).1, (φ k).2 + off)) (upd κ g.next (κ k - 1 - (cp - openB) + 1)) (g.new (.cells ⟨old ++ new, i.size, true⟩)).N { w with heap := w.heap.setIfInBounds (φ k).1 (.cells cc.toArray cel (0, 0)) } g.next (.cells ⟨old ++ new, i.size, true⟩) := by
                            refine ⟨fun e => absurd e (upd_ne0 _ _ _), fun _ => ⟨cc.toArray, cel, _, ?_, fun _ => rfl, ?_, fun j v hj => ?_, fun v hv => ?_, fun _ => ?_⟩⟩
                            · rw [upd_same]
                              exact hset
                            · rw [upd_same, List.size_toArray, hsz2]
                              simp only [List.length_append]
                              omega
                            · rw [upd_same]
                              have hvo : okV g.N κ v := by
                                rcases List.mem_append.1 (List.mem_of_getElem? hj) with hv | hv
                                · exact o2 v hv
                                · exact g2 v hv
                              rw [ren_congr (N := g.N) (fun k s => ⟨upd_ne _ _ (hne k s), upd_ne _ _ (hne k s)⟩) v hvo]
                              rw [List.getElem?_toArray, hcell]
                              have hj' : (old ++ new)[j]? = some v := hj
                              by_cases hjo : j < old.length
                              · rw [List.getElem?_append_left hjo] at hj'
                                rw [if_neg (by omega)]
                                have := e2 _ _ (aFirst_get gg ho j v hj')
                                rw [← Nat.add_assoc] at this
                                simpa using this
                              · rw [List.getElem?_append_right (by omega)] at hj'
                                have hjn := (List.getElem?_eq_some_iff.1 hj').1
                                rw [if_pos (by omega), List.getElem?_map, show (φ k).2 + off + j - ((φ k).2 + off + n0 * i.size) = j - old.length from by omega, hj']
                                rfl
                            · have hvo : okV g.N κ v := by
                                rcases List.mem_append.1 hv with hv | hv
                                · exact o2 v hv
                                · exact g2 v hv
                              exact ok_mono (fun _ s => new_sees (h := g) s) (fun j s => upd_ne _ _ (hne j s)) v hvo
                            · rw [upd_same, upd_same, List.size_toArray, hsz2]
                              simp only [Nat.add_sub_cancel]
                              omega
                          refine ⟨upd φ g.next ((φ k).1, (φ k).2 + off), upd κ g.next (κ k - 1 - (cp - openB) + 1), { w with heap := w.heap.setIfInBounds (φ k).1 (.cells cc.toArray cel (0, 0)) }, ?_, ?_, ⟨fun j hj => ?_, rfl, rfl, rfl, by simp, fun x _ hx => ?_, ?_, hent, fun _ => .inl ⟨hk0, by rw [upd_same]⟩⟩⟩
                          · rw [hxr] at g1 ⊢
                            have h1 : ren φ κ (.slice (some ⟨k, off, none⟩) n0 cp) = .slice (some ⟨(φ k).1, (φ k).2 + off, none⟩) n0 (κ k - 1 - (cp - openB)) := by simp [ren, hcl, hk0]
                            have h2 : ren (upd φ g.next ((φ k).1, (φ k).2 + off)) (upd κ g.next (κ k - 1 - (cp - openB) + 1)) (.slice (some ⟨g.next, 0, none⟩) (n0 + n) openB) = .slice (some ⟨(φ k).1, (φ k).2 + off, none⟩) (n0 + n) (κ k - 1 - (cp - openB)) := by rw [ren_open_new _ _ _ _ (upd_ne0 _ _ _), upd_same, upd_same, Nat.add_sub_cancel, Nat.add_zero]
                            rw [h1, h2]
                            refine append_place t0 t1 hu hx hi hd hroom g1 (by rw [add_none]; exact hrun)
                          · simp only [okV]
                            have hid : ∀ p ∈ g.hid, p.2 ≤ g.next := R.hid
                            refine ⟨new_sees_self (h := g) (o := .cells ⟨old ++ new, i.size, true⟩) hid, fun e => absurd e (upd_ne0 _ _ _), fun _ => ?_⟩
                            rw [upd_same]
                            omega
                          · have : j ≠ g.next := by omega
                            exact ⟨upd_ne _ _ this, upd_ne _ _ this⟩
                          · exact Array.getElem?_setIfInBounds_ne (fun e => hx hk0 e.symm)
                          · refine ⟨fun e => absurd e hk0, fun _ => ⟨cc.toArray, cel, _, hset, fun _ => rfl, ?_, fun j v hj => ?_, e3, fun ho => ?_⟩⟩
                            · rw [List.size_toArray, hsz2]; exact e0
                            · have hjl := (List.getElem?_eq_some_iff.1 hj).1
                              rw [c3] at hlen
                              rw [List.getElem?_toArray, hcell, if_neg (by omega)]
                              have := e2 j v hj
                              simpa using this
                            · rw [List.size_toArray, hsz2]; exact e4 ho
                        · have hbnd : Builtin.nextslicecap (n0 + n) (κ k - 1 - (cp - openB)) * i.bytes ≤ 281474976710656 := Nat.le_trans (Nat.mul_le_mul_right _ (nextcap_le (by omega))) c5
                          obtain ⟨φ', κ', w', q1, q2, q3⟩ := aGrow_sound (P := P) R (ty := ty) t0 t1 hu hx hi hz hd hzs old new (by rw [first_wl]; exact ho) (by rw [first_wl]; exact hn) rfl (C := κ k - 1 - (cp - openB)) (B := if κ k = 0 then dec (φ k).1 else some ⟨(φ k).1, (φ k).2 + off, none⟩) (by rw [ren_slice os', if_neg hcl]) (by omega) hby hbnd
                          have hbl := q2.rel.below.block
                          have hid : ∀ p ∈ g.hid, p.2 ≤ g.next := R.hid
                          have gn : (({ g with wlim := g.next } : AH).new (.cells ⟨old ++ new, i.size, true⟩)).get g.next = some (.cells ⟨old ++ new, i.size, true⟩) := by
                            rw [new_get R.hid, if_pos rfl]
                          refine ⟨φ', κ', w', q1, q3, ⟨q2.agr, q2.rel.below.os, q2.rel.below.tape, q2.rel.below.output, q2.rel.below.size, fun x hx _ => hbl x hx, ?_, q2.rel.ent _ _ gn, fun hr => .inr (q2.rel.own _ _ gn hr (by show g.next ≤ g.next; exact Nat.le_refl _))⟩⟩
                          exact (R.ent k _ ggr).move (fun _ s => s) (fun _ _ => ⟨rfl, rfl⟩) ⟨rfl, rfl⟩ (fun hr => hbl _ ((R.ent k _ ggr).lt hr))
                      · cases e
                    · cases e
                  · cases e
                · cases e
              · rename_i hno
                exact absurd rfl (hno _ _)
      · cases e
    · cases e
  · cases e

theorem kil_is {C : CallR} {o : Oper} {k : Nat} (hk : killName g ρ o = some k) (hnx : h'.next = g.next + 1) (e : rStep P C g ρ o v h') : isApp o.op = true ∧ g.wlim ≤ k ∧ ∃ b nb : Blk, g.get k = some (.cells b) ∧ h' = (g.new (.cells nb)).put k none ∧
    ∀ (φ : Nat → Nat × Nat) (κ : Nat → Nat) (w : World) (a : Act) (rd : Option Nat) (next : Act → World → Prop) (Q : Exit → Act → World → Prop), Rel w φ κ { g with wlim := g.next } w → ERel φ κ g.N ρ a.eval →
      (∀ φ' κ' w', KOut φ κ g k b nb w φ' κ' w' → okV (g.new (.cells nb)).N κ' v → next (a.put o.dst (ren φ' κ' v)) w') → o.wpIn (fen rd) 0 P a w next Q := by
  unfold killName at hk
  split at hk
  · rename_i c hop
    split at hk
    · rename_i k' off n cp x hcal hargs
      split at hk
      · rename_i hcp
        split at hk
        · rename_i b hgb
          split at hk
          · rename_i hlen
            injection hk with hk
            subst hk
            unfold rStep at e
            rw [hop] at e
            simp only [hargs, hcal] at e
            unfold aBuiltin at e
            simp only at e
            obtain ⟨hw, nb, hh, hrun⟩ := aAppend_kill (ty := o.type) rfl hcp hgb hlen hnx e
            refine ⟨by unfold isApp; rw [hop]; simp only [hcal], hw, b, nb, hgb, hh, fun φ κ w a rd next Q R E hn => ?_⟩
            obtain ⟨a1, a2⟩ := aArgs_sound E _ _ hargs
            obtain ⟨φ', κ', w', r1, r2, r3⟩ := hrun φ κ w R (a2 _ (by simp))
            have hnd : ∀ c, o.op ≠ .defer c := by
              intro c hc
              rw [hop] at hc
              cases hc
            refine ⟨fun f _ => fen_fn rd f, ?_⟩
            rw [Oper.semAt_eq _ _ _ hnd]
            have ha' : c.args.map a.eval = (([.slice (some ⟨k', off, none⟩) n cp, x] : List Value).map (ren φ κ)).toArray := by apply Array.ext'; simpa using a1
            have hl : Leaves ((execOp a.eval o).run P w) (ren φ' κ' v) w' := by
              rw [execOp_call hop]
              have hres : (resolve a.eval c o.type).run P w = .ok { target := .builtin .append c.argTypes o.type (c.args.map fun | .const _ => true | _ => false), args := (([.slice (some ⟨k', off, none⟩) n cp, x] : List Value).map (ren φ κ)).toArray } w := by
                unfold resolve
                rw [ha', hcal]
                rfl
              rw [Sem.run_bind, hres]
              simp only [Result.andThen_ok, invoke]
              exact leaves_value (run_v r1)
            exact upon_leaves hl (hn φ' κ' w' r3 r2)
          · cases hk
        · cases hk
      · cases hk
    · cases hk
  · cases hk
end
end Go.Vm
