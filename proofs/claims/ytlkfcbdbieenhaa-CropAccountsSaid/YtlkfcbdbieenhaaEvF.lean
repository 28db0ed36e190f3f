/-
  A machine for closed runs, sixth part: making and cutting slices, append, copy.
-/
import Derived.Test.YtlkfcbdbieenhaaEvE
namespace Go.Ev
open Go Go.RowKit

section
variable {P : Program} {w0 w w' : World} {φ φ' : Nat → Nat × Nat} {κ κ' : Nat → Nat} {h h' : AH}

theorem slice_new {φ' : Nat → Nat × Nat} {k : Nat} (h2 : (φ' k).2 = 0) (n c : Nat) (hc : c < openB) : ren φ' κ' (.slice (some ⟨k, 0, none⟩) n c) = .slice (some ⟨(φ' k).1, 0, none⟩) n c := by
  simp [ren, h2, hc]
theorem ok_slice_closed {N : Nat → Prop} {k o n c : Nat} (hk : N k) (hc : c < openB) : okV N κ (.slice (some ⟨k, o, none⟩) n c) := by
  simp only [okV]
  exact ⟨hk, fun e => by omega⟩

theorem range_map_zlist (z : Value) (n : Nat) : ((Array.range n).map fun i => z.cells[i % z.cells.size]!) = (zlist z n).toArray := by
  apply Array.ext'
  simp [zlist, Array.toList_range]

theorem aBuildSlice_sound (R : Rel w0 φ κ h w) {t : TypeId} {len : Nat} {ps : List (Nat × Value)} {r : Value × AH} (e : aBuildSlice P h t len ps = some r) (o : ∀ p ∈ ps, okV h.N κ p.2) (hl : len < openB) :
    ∃ φ' κ' w', (Instr.buildSlice t len (renP φ κ ps).toArray).run P w = .ok (ren φ' κ' r.1) w' ∧ Step w0 φ κ h φ' κ' r.2 w' ∧ okV r.2.N κ' r.1 := by
  unfold aBuildSlice at e
  split at e
  · rename_i el hu
    split at e
    · rename_i i z hi hz
      split at e
      · rename_i hle
        obtain ⟨hn, i', hi', hz'⟩ := zeroOf_spec hz
        obtain rfl : i = i' := Option.some.inj (hi.symm.trans hi')
        split at e
        · rename_i cells hf
          injection e with e
          subst e
          have hok : okA h.N κ cells := fill_ok _ _ _ _ hf o (by simp only [okA, okL_iff]; exact zlist_ok z _ hn)
          obtain ⟨φ', κ', w', h1, h2, h3, h4⟩ := R.row (P := P) (cs := cells.toList) (okA_iff.1 hok) el i.size
          refine ⟨φ', κ', w', ?_, h3, ok_slice_closed h4 hl⟩
          have hff := fill_ren φ κ _ _ _ _ hf
          have hzl : ((zlist z (len * i.size)).toArray.map (ren φ κ)) = (zlist z (len * i.size)).toArray := by
            rw [List.map_toArray, zlist_map z _ hn]
          rw [hzl] at hff
          have hcells : (cells.toList.map (ren φ κ)).toArray = cells.map (ren φ κ) := by apply Array.ext'; simp
          rw [hcells] at h1
          unfold Instr.buildSlice
          simp only [Sem.run_bind, run_underlying hu, Result.andThen_ok, run_sizeOf' hi]
          rw [if_neg (by omega)]
          have hfin : (do let cells' ← newRow el (cells.map (ren φ κ)); pure (Value.slice (some cells') len len) : Sem Value).run P w = .ok (ren φ' κ' (.slice (some ⟨h.next, 0, none⟩) len len)) w' := by
            rw [Sem.run_bind, h1, slice_new h2 _ _ hl]
            rfl
          by_cases h0 : len * i.size = 0
          · rw [if_pos h0]
            have hz0 : ((Array.range (len * i.size)).map fun j => (#[] : Array Value)[j % (#[] : Array Value).size]!) = (zlist z (len * i.size)).toArray := by rw [h0]; apply Array.ext'; simp [zlist]
            simp only [Sem.run_bind, Sem.run_pure, Result.andThen_ok, hz0, hff]
            simpa only [Sem.run_bind, Sem.run_pure] using hfin
          · rw [if_neg h0]
            simp only [Sem.run_bind, Sem.run_pure, Result.andThen_ok, run_zeroValue' hi hz', range_map_zlist, hff]
            simpa only [Sem.run_bind, Sem.run_pure] using hfin
        · cases e
      · cases e
    · cases e
  · cases e

def aMakeSlice (P : Program) (h : AH) (t : TypeId) (len cap : Value) : Option (Value × AH) :=
  match P.underlying t, len, cap with
  | some (.slice el), .int _ l, .int _ c =>
    match P.info? el, zeroOf P el with
    | some i, some z =>
      if 0 ≤ l ∧ l ≤ c ∧ c ≤ 16777216 ∧ i.bytes ≤ 16777216 then
        some (.slice (some ⟨h.next, 0, none⟩) l.toNat c.toNat, h.new (.cells ⟨zlist z (c.toNat * i.size), i.size, false⟩))
      else none
    | _, _ => none
  | _, _, _ => none
theorem run_askRoom (n : Nat) (w : World) : (askRoom n).run P w = .ok () w := by
  unfold askRoom
  split <;> rfl
theorem wrap64_id {n : Int} (h0 : 0 ≤ n) (h1 : n ≤ 16777216) : IntKind.i64.wrap n = n := by
  have e : IntKind.i64.bits = 64 := rfl
  unfold IntKind.wrap
  simp [IntKind.bits, IntKind.signed]
  omega
theorem aMakeSlice_sound (R : Rel w0 φ κ h w) {t : TypeId} {l c : Value} {r : Value × AH} (e : aMakeSlice P h t l c = some r) :
    ∃ φ' κ' w', (Instr.makeSlice t (ren φ κ l) (ren φ κ c)).run P w = .ok (ren φ' κ' r.1) w' ∧ Step w0 φ κ h φ' κ' r.2 w' ∧ okV r.2.N κ' r.1 := by
  unfold aMakeSlice at e
  split at e
  · rename_i el _ l _ c hu
    split at e
    · rename_i i z hi hz
      split at e
      · rename_i hc
        obtain ⟨c1, c2, c3, c4⟩ := hc
        obtain ⟨hn, i', hi', hz'⟩ := zeroOf_spec hz
        obtain rfl : i = i' := Option.some.inj (hi.symm.trans hi')
        injection e with e
        subst e
        have hcb : c.toNat < openB := by unfold openB; omega
        obtain ⟨φ', κ', w', h1, h2, h3, h4⟩ := R.row (P := P) (cs := zlist z (c.toNat * i.size)) (zlist_ok z _ hn) el i.size
        refine ⟨φ', κ', w', ?_, h3, ok_slice_closed h4 hcb⟩
        rw [zlist_map z _ hn] at h1
        have hb : ((i.bytes : Int) * c) ≤ 281474976710656 := by
          have : ((i.bytes : Int)) ≤ 16777216 := by omega
          have h0 : (0 : Int) ≤ c := by omega
          calc (i.bytes : Int) * c ≤ 16777216 * c := Int.mul_le_mul_of_nonneg_right this h0
            _ ≤ 16777216 * 16777216 := Int.mul_le_mul_of_nonneg_left c3 (by omega)
            _ = 281474976710656 := by decide
        unfold Instr.makeSlice
        simp only [ren, Sem.run_bind, run_underlying hu, Result.andThen_ok, asInt, asIntOf, Sem.run_pure, run_typeInfo' hi, wrap64_id (Int.le_trans c1 c2) c3, wrap64_id c1 (Int.le_trans c2 c3)]
        rw [if_neg (by simp; omega)]
        have hfin : (do let a ← newRow el (zlist z (c.toNat * i.size)).toArray; pure (Value.slice (some a) l.toNat c.toNat) : Sem Value).run P w = .ok (ren φ' κ' (.slice (some ⟨h.next, 0, none⟩) l.toNat c.toNat)) w' := by
          rw [Sem.run_bind, h1, slice_new h2 _ _ hcb]
          rfl
        simp only [Sem.run_bind, run_askRoom, Result.andThen_ok, run_sizeOf' hi]
        by_cases h0 : c.toNat * i.size = 0
        · rw [if_pos h0]
          have hz0 : ((Array.range (c.toNat * i.size)).map fun j => (#[] : Array Value)[j % (#[] : Array Value).size]!) = (zlist z (c.toNat * i.size)).toArray := by rw [h0]; apply Array.ext'; simp [zlist]
          simp only [Sem.run_bind, Sem.run_pure, Result.andThen_ok, hz0]
          simpa only [Sem.run_bind, Sem.run_pure, ren] using hfin
        · rw [if_neg h0]
          simp only [Sem.run_bind, Sem.run_pure, Result.andThen_ok, run_zeroValue' hi hz', range_map_zlist]
          simpa only [Sem.run_bind, Sem.run_pure, ren] using hfin
      · cases e
    · cases e
  · cases e

/- a bound of a cut: none, or an int -/
def natOf : Option Value → Nat → Option Nat
  | none, d => some d
  | some (.int _ i), _ => if 0 ≤ i then some i.toNat else none
  | _, _ => none

/- x[l:h], x[l:h:m], of a slice -/
def aSlice (P : Program) (t : TypeId) (x : Value) (lo hi mx : Option Value) : Option Value :=
  match P.underlying t, x with
  | some (.slice el), .slice a n c =>
    match P.info? el, natOf lo 0, natOf hi n, natOf mx c with
    | some f, some l, some hh, some m =>
      if c < openB then
        if l ≤ hh ∧ hh ≤ m ∧ m ≤ c ∧ (hi.isSome || mx.isNone) ∧ (hi.isSome || n ≤ c) then some (.slice (if m = l then a else a.map (·.add (l * f.size))) (hh - l) (m - l)) else none
      else
        match a with
        | none => none
        | some a =>
          if mx.isSome then
            if l ≤ hh ∧ hh ≤ m ∧ m ≤ n ∧ m < openB ∧ hi.isSome then some (.slice (some (if m = l then a else a.add (l * f.size))) (hh - l) (m - l)) else none
          else
            if l ≤ hh ∧ hh ≤ n ∧ (l < hh ∨ l = 0) then some (.slice (some (a.add (l * f.size))) (hh - l) (c + l)) else none
    | _, _, _, _ => none
  | _, _ => none

theorem run_bound {v : Value} {d l y : Nat} {code : BoundsCode} (e : natOf (some v) d = some l) (hl : l ≤ y) (w : World) : (Instr.sliceBound (ren φ κ v) y code).run P w = .ok l w := by
  unfold natOf at e
  split at e
  · rename_i h1; cases h1
  · rename_i k i h1
    injection h1 with h1
    subst h1
    split at e
    · rename_i h0
      injection e with e
      subst e
      have hi : i ≤ (y : Int) := by omega
      simp [ren, Instr.sliceBound, asIntOf, h0, hi]
    · cases e
  · cases e

theorem run_bounds {n C l hh m : Nat} {lo hi mx : Option Value} {d : Nat} (e1 : natOf lo 0 = some l) (e2 : natOf hi n = some hh) (e3 : mx.isSome → natOf mx d = some m) (h1 : l ≤ hh) (h2 : hi.isSome → hh ≤ m) (h3 : m ≤ C) (h4 : hi.isSome ∨ mx.isNone) (h5 : mx.isNone → m = C) (w : World) :
    (Instr.sliceBounds true n C (lo.map (ren φ κ)) (hi.map (ren φ κ)) (mx.map (ren φ κ))).run P w = .ok (l, hh, m) w := by
  unfold Instr.sliceBounds
  cases mx with
  | none =>
    obtain rfl : m = C := h5 rfl
    simp only [Option.map_none, Sem.run_bind, Sem.run_pure, Result.andThen_ok]
    cases hi with
    | none =>
      simp only [natOf, Option.some.injEq] at e2
      subst e2
      simp only [Option.map_none, Sem.run_bind, Sem.run_pure, Result.andThen_ok]
      cases lo with
      | none =>
        simp only [natOf, Option.some.injEq] at e1
        subst e1
        simp
      | some v => simp only [Option.map_some, Sem.run_bind, run_bound e1 h1, Result.andThen_ok, Sem.run_pure]
    | some u =>
      simp only [Option.map_some, Sem.run_bind, run_bound e2 (h2 rfl), Result.andThen_ok]
      cases lo with
      | none =>
        simp only [natOf, Option.some.injEq] at e1
        subst e1
        simp
      | some v => simp only [Option.map_some, Sem.run_bind, run_bound e1 h1, Result.andThen_ok, Sem.run_pure]
  | some z =>
    have e3' := e3 rfl
    simp only [Option.map_some, Sem.run_bind, run_bound e3' h3, Result.andThen_ok]
    cases hi with
    | none => simp at h4
    | some u =>
      simp only [Option.map_some, Sem.run_bind, run_bound e2 (h2 rfl), Result.andThen_ok]
      cases lo with
      | none =>
        simp only [natOf, Option.some.injEq] at e1
        subst e1
        simp
      | some v => simp only [Option.map_some, Sem.run_bind, run_bound e1 h1, Result.andThen_ok, Sem.run_pure]

theorem aSlice_sound {N : Nat → Prop} {t : TypeId} {x v : Value} {lo hi mx : Option Value} (e : aSlice P t x lo hi mx = some v) (o : okV N κ x) :
    (Instr.sliceAt t (ren φ κ x) (lo.map (ren φ κ)) (hi.map (ren φ κ)) (mx.map (ren φ κ))).run P w = .ok (ren φ κ v) w ∧ okV N κ v := by
  unfold aSlice at e
  split at e
  · rename_i el a n c hu
    split at e
    · rename_i f l hh m hf e1 e2 e3
      have hmx : mx.isNone → m = c := by
        intro hn
        cases mx with
        | none => simpa [natOf] using e3.symm
        | some _ => cases hn
      split at e
      · rename_i hc
        split at e
        · rename_i hcond
          obtain ⟨c1, c2, c3, c4, c5⟩ := hcond
          injection e with e
          subst e
          have c4' : hi.isSome ∨ mx.isNone := by simpa using c4
          have hb := run_bounds (P := P) (φ := φ) (κ := κ) (C := c) e1 e2 (fun _ => e3) c1 (fun _ => c2) c3 c4' hmx w
          have hml : m - l < openB := by omega
          cases a with
          | none =>
            refine ⟨?_, by simp [okV]⟩
            simp [ren, Instr.sliceAt, Instr.slice, Sem.run_bind, run_underlying hu, hb, run_sizeOf' hf]
          | some a =>
            have ok : okV N κ (.slice (if m = l then some a else (some a).map (·.add (l * f.size))) (hh - l) (m - l)) := by
              simp only [okV] at o
              by_cases hm : m = l
              · simp only [hm, if_true, okV]; exact ⟨o.1, fun e => by unfold openB at e; omega⟩
              · simp only [hm, if_false, Option.map_some, okV, add_block]; exact ⟨o.1, fun e => by omega⟩
            refine ⟨?_, ok⟩
            by_cases hm : m = l
            · subst hm
              simp [ren, Instr.sliceAt, Instr.slice, Sem.run_bind, run_underlying hu, hb, run_sizeOf' hf, hc]
              intro hx; unfold openB at hx; omega
            · have ha := ren_add φ κ a (l * f.size)
              simp only [ren, Value.pointer.injEq, Option.some.injEq] at ha
              simp [ren, Instr.sliceAt, Instr.slice, Sem.run_bind, run_underlying hu, hb, run_sizeOf' hf, hc, hml, hm, ha]
        · cases e
      · rename_i hc
        split at e
        · cases e
        · rename_i a
          simp only [okV] at o
          have ho := o.2 (by omega)
          have hrx : ren φ κ (.slice (some a) n c) = .slice (some ⟨(φ a.block).1, (φ a.block).2 + a.off, a.spot⟩) n (κ a.block - (c - openB)) := by simp [ren, hc]
          rw [hrx]
          have ha := ren_add φ κ a (l * f.size)
          simp only [ren, Value.pointer.injEq, Option.some.injEq] at ha
          split at e
          · rename_i hs
            split at e
            · rename_i hcond
              obtain ⟨c1, c2, c3, c5, c4⟩ := hcond
              injection e with e
              subst e
              have hb := run_bounds (P := P) (φ := φ) (κ := κ) (C := κ a.block - (c - openB)) e1 e2 (fun _ => e3) c1 (fun _ => c2) (by omega) (Or.inl c4) (fun hn => by rw [Option.isNone_iff_eq_none] at hn; rw [hn] at hs; cases hs) w
              have hml : m - l < openB := by omega
              by_cases hm : m = l
              · subst hm
                refine ⟨?_, by simp only [if_true, okV]; exact ⟨o.1, fun e => by omega⟩⟩
                simp [ren, Instr.sliceAt, Instr.slice, Sem.run_bind, run_underlying hu, hb, run_sizeOf' hf]
                intro hx; omega
              · refine ⟨?_, by simp only [hm, if_false, okV, add_block]; exact ⟨o.1, fun e => by omega⟩⟩
                simp [ren, Instr.sliceAt, Instr.slice, Sem.run_bind, run_underlying hu, hb, run_sizeOf' hf, hml, hm, ha]
            · cases e
          · rename_i hs
            split at e
            · rename_i hcond
              obtain ⟨c1, c2, c3⟩ := hcond
              injection e with e
              subst e
              have hnone : mx = none := by cases mx with | none => rfl | some _ => simp at hs
              subst hnone
              have hb := run_bounds (P := P) (φ := φ) (κ := κ) (C := κ a.block - (c - openB)) (m := κ a.block - (c - openB)) (mx := none) (d := 0) e1 e2 (fun hn => by cases hn) c1 (fun _ => by omega) (Nat.le_refl _) (Or.inr rfl) (fun _ => rfl) w
              refine ⟨?_, by simp only [okV, add_block]; exact ⟨o.1, fun e => by omega⟩⟩
              have hadd : (if κ a.block - (c - openB) = l then some (⟨(φ a.block).1, (φ a.block).2 + a.off, a.spot⟩ : Addr) else some ((⟨(φ a.block).1, (φ a.block).2 + a.off, a.spot⟩ : Addr).add (l * f.size))) = some ((⟨(φ a.block).1, (φ a.block).2 + a.off, a.spot⟩ : Addr).add (l * f.size)) := by
                split
                · rcases c3 with c3 | c3
                  · omega
                  · subst c3
                    simp [Addr.add]
                · rfl
              have hcl : ¬ c + l < openB := by omega
              have hcap : κ a.block - (c - openB) - l = κ a.block - (c + l - openB) := by omega
              simp only [Option.map_none] at hb
              simp [Instr.sliceAt, Instr.slice, Sem.run_bind, run_underlying hu, hb, run_sizeOf' hf, hadd, ren, hcl, hcap, add_block]
              rw [add_block] at ha
              exact ha.symm
            · cases e
    · cases e
  · cases e

/- x[l:l] at a slice whose room is not known: nothing is in it, and where it begins is not known -/
def aSliceEnd (P : Program) (h : AH) (t : TypeId) (x : Value) (lo hi mx : Option Value) : Option (Value × AH) :=
  match P.underlying t, x, mx with
  | some (.slice el), .slice (some ⟨_, _, none⟩) n c, none =>
    match P.info? el, natOf lo 0, natOf hi n with
    | some _, some l, some hh => if openB ≤ c ∧ l = hh ∧ hh ≤ n then some (.slice (some ⟨h.next, 0, none⟩) 0 openB, h.bump) else none
    | _, _, _ => none
  | _, _, _ => none
theorem aSliceEnd_sound (R : Rel w0 φ κ h w) {t : TypeId} {x : Value} {lo hi mx : Option Value} {r : Value × AH} (e : aSliceEnd P h t x lo hi mx = some r) (o : okV h.N κ x) :
    ∃ φ' κ' w', (Instr.sliceAt t (ren φ κ x) (lo.map (ren φ κ)) (hi.map (ren φ κ)) (mx.map (ren φ κ))).run P w = .ok (ren φ' κ' r.1) w' ∧ Step w0 φ κ h φ' κ' r.2 w' ∧ okV r.2.N κ' r.1 := by
  unfold aSliceEnd at e
  split at e
  · rename_i el k off n c hu
    split at e
    · rename_i f l hh hf e1 e2
      split at e
      · rename_i hc
        obtain ⟨c1, c2, c3⟩ := hc
        subst c2
        injection e with e
        subst e
        simp only [okV] at o
        have ho := o.2 c1
        have hb := run_bounds (P := P) (φ := φ) (κ := κ) (C := κ k - (c - openB)) (m := κ k - (c - openB)) (mx := none) (d := 0) e1 e2 (fun hn => by cases hn) (Nat.le_refl _) (fun _ => by omega) (Nat.le_refl _) (Or.inr rfl) (fun _ => rfl) w
        simp only [Option.map_none] at hb ⊢
        have hcl : ¬ c < openB := by omega
        have hrx : ren φ κ (.slice (some ⟨k, off, none⟩) n c) = .slice (some ⟨(φ k).1, (φ k).2 + off, none⟩) n (κ k - (c - openB)) := by simp only [ren]; rw [if_neg hcl]
        let p : Nat × Nat := if κ k - (c - openB) = l then ((φ k).1, (φ k).2 + off) else ((φ k).1, (φ k).2 + off + l * f.size)
        have S := R.bump p (κ k - (c - openB) - l)
        refine ⟨_, _, _, ?_, S, ?_⟩
        · rw [hrx]
          simp only [ren]
          rw [if_neg (Nat.lt_irrefl _), Nat.sub_self, Nat.sub_zero, upd_same, upd_same]
          unfold Instr.sliceAt
          simp only [Sem.run_bind, run_underlying hu, Result.andThen_ok, Instr.slice, hb, run_sizeOf' hf, Sem.run_pure, Nat.sub_self]
          congr 2
          by_cases hm : κ k - (c - openB) = l
          · rw [if_pos hm]
            show _ = some (⟨p.1, p.2 + 0, none⟩ : Addr)
            have : p = ((φ k).1, (φ k).2 + off) := if_pos hm
            rw [this]
            rfl
          · rw [if_neg hm]
            show _ = some (⟨p.1, p.2 + 0, none⟩ : Addr)
            have : p = ((φ k).1, (φ k).2 + off + l * f.size) := if_neg hm
            rw [this, Option.map_some, add_none]
            rfl
        · simp only [okV]
          refine ⟨bump_sees R.hid, fun _ => ?_⟩
          rw [Nat.sub_self]
          exact Nat.zero_le _
      · cases e
    · cases e
  · cases e
end
end Go.Ev
