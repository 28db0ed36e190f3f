/-
  A machine for closed runs, ninth part: builtins, growth, frames.
-/
import Derived.Test.YtlkfcbdbieenhaaEvH
import Derived.Tactics
namespace Go.Ev
open Go Go.RowKit

def noAddrs : List Value → Bool
  | [] => true
  | v :: r => noAddr v && noAddrs r

def aLen (h : AH) : Value → Option Value
  | .slice _ n _ => some (.int .i64 n)
  | .map none => some (.int .i64 0)
  | .map (some r) => match h.get r with
    | some (.map es _) => some (.int .i64 es.length)
    | _ => none
  | _ => none

def isSliceD : TypeDesc → Bool
  | .slice _ => true
  | _ => false
def isMapD : TypeDesc → Bool
  | .map _ _ => true
  | _ => false

def aBuiltin (P : Program) (h : AH) (b : Builtin) (ts : Array TypeId) (ty : TypeId) (args : List Value) : Option (Value × AH) :=
  match b, args with
  | .len, [.slice _ n _] => match ts[0]? with
    | some t => match P.underlying t with
      | some (.slice _) => some (.int .i64 n, h)
      | _ => none
    | none => none
  | .len, [.map (some r)] => match ts[0]? with
    | some t => match P.underlying t, h.get r with
      | some (.map _ _), some (.map es _) => some (.int .i64 es.length, h)
      | _, _ => none
    | none => none
  | .len, args => if noAddrs args then match pureRun P (Builtin.len_ ts ty args.toArray) with
      | some v => if noAddr v then some (v, h) else none
      | none => none
    else none
  | .cap, [.slice _ _ c] => match ts[0]? with
    | some t => match P.underlying t with
      | some (.slice _) => if c < openB then some (.int .i64 c, h) else none
      | _ => none
    | none => none
  | .min, args => if noAddrs args then match pureRun P (Builtin.min_ ts ty args.toArray) with
      | some v => if noAddr v then some (v, h) else none
      | none => none
    else none
  | .max, args => if noAddrs args then match pureRun P (Builtin.max_ ts ty args.toArray) with
      | some v => if noAddr v then some (v, h) else none
      | none => none
    else none
  | .append, [s, x] => aAppend P h ts s x
  | .copy, [d, x] => aCopy P h ts d x
  | _, _ => none

structure Grow (h h' : AH) : Prop where
  next : h.next ≤ h'.next
  hid : h'.hid = h.hid
  wlim : h'.wlim = h.wlim
  keep : ∀ k, k < h.wlim → h'.tr.get k = h.tr.get k

section
variable {P : Program} {w0 w w' : World} {φ φ' : Nat → Nat × Nat} {κ κ' : Nat → Nat} {h h' h'' : AH} {ρ : Env} {ev : Operand → Value}

theorem Grow.refl (h : AH) : Grow h h := ⟨Nat.le_refl _, rfl, rfl, fun _ _ => rfl⟩
theorem Grow.trans (a : Grow h h') (b : Grow h' h'') : Grow h h'' := ⟨Nat.le_trans a.next b.next, b.hid.trans a.hid, b.wlim.trans a.wlim, fun k hk => (b.keep k (by rw [a.wlim]; exact hk)).trans (a.keep k hk)⟩
theorem Grow.wl (a : Grow h h') (hw : h.wlim ≤ h.next) : h'.wlim ≤ h'.next := by rw [a.wlim]; exact Nat.le_trans hw a.next
theorem grow_new (hw : h.wlim ≤ h.next) (o : AObj) : Grow h (h.new o) := ⟨by rw [new_next]; omega, rfl, rfl, fun k hk => by rw [new_tr, Tr.get_put, if_neg (by omega)]⟩
theorem grow_put {k : Nat} (hk : h.wlim ≤ k) (o : Option AObj) : Grow h (h.put k o) := ⟨Nat.le_refl _, rfl, rfl, fun j hj => by rw [put_tr, Tr.get_put, if_neg (by omega)]⟩

theorem aAlloc_grow (hw : h.wlim ≤ h.next) {t : TypeId} {r : Value × AH} (e : aAlloc P h t = some r) : Grow h r.2 := by
  unfold aAlloc at e
  cases hz : zeroOf P t with
  | none => rw [hz] at e; cases e
  | some z => rw [hz] at e; injection e with e; subst e; exact grow_new hw _
theorem aStore_grow {t : TypeId} {a v : Value} (e : aStore P h t a v = some h') : Grow h h' := by
  unfold aStore at e
  split at e
  · split at e
    · split at e
      · rename_i hc
        injection e with e
        subst e
        exact grow_put hc.2.2.1 _
      · cases e
    · cases e
  · cases e
theorem aBuildSlice_grow (hw : h.wlim ≤ h.next) {t : TypeId} {n : Nat} {ps : List (Nat × Value)} {r : Value × AH} (e : aBuildSlice P h t n ps = some r) : Grow h r.2 := by
  unfold aBuildSlice at e
  split at e
  · split at e
    · split at e
      · split at e
        · injection e with e; subst e; exact grow_new hw _
        · cases e
      · cases e
    · cases e
  · cases e
theorem aMakeSlice_grow (hw : h.wlim ≤ h.next) {t : TypeId} {l c : Value} {r : Value × AH} (e : aMakeSlice P h t l c = some r) : Grow h r.2 := by
  unfold aMakeSlice at e
  split at e
  · split at e
    · split at e
      · injection e with e; subst e; exact grow_new hw _
      · cases e
    · cases e
  · cases e
theorem aAppend_grow (hw : h.wlim ≤ h.next) {ts : Array TypeId} {s x : Value} {r : Value × AH} (e : aAppend P h ts s x = some r) : Grow h r.2 := by
  unfold aAppend at e
  split at e
  · split at e
    · split at e
      · split at e
        · cases e
        · split at e
          · split at e
            · injection e with e; subst e; exact Grow.refl _
            · cases e
          · split at e
            · split at e
              · split at e
                · split at e
                  · split at e
                    · rename_i hc
                      injection e with e; subst e; exact grow_put hc.1 _
                    · cases e
                  · cases e
                · cases e
              · split at e
                · unfold aGrow at e
                  split at e
                  · injection e with e; subst e; exact grow_new hw _
                  · cases e
                · cases e
            · split at e
              · split at e
                · split at e
                  · rename_i hc
                    split at e
                    · split at e
                      · injection e with e; subst e; exact (grow_new hw _).trans (grow_put (h := h.new _) (by rw [new_wlim]; exact hc.1) _)
                      · cases e
                    · cases e
                  · cases e
                · cases e
              · cases e
      · cases e
    · cases e
  · cases e
theorem aCopy_grow {ts : Array TypeId} {d x : Value} {r : Value × AH} (e : aCopy P h ts d x = some r) : Grow h r.2 := by
  unfold aCopy at e
  split at e
  · split at e
    · split at e
      · split at e
        · split at e
          · rename_i hc
            injection e with e; subst e; exact grow_put hc.1 _
          · cases e
        · cases e
      · cases e
    · cases e
  · cases e

theorem grow_bump (hw : h.wlim ≤ h.next) : Grow h h.bump := ⟨Nat.le_succ _, rfl, rfl, fun k hk => by
  show (h.tr.put h.next none).get k = _
  rw [Tr.get_put, if_neg (by omega)]⟩
theorem aSliceEnd_grow (hw : h.wlim ≤ h.next) {t : TypeId} {x : Value} {lo hi mx : Option Value} {r : Value × AH} (e : aSliceEnd P h t x lo hi mx = some r) : Grow h r.2 := by
  unfold aSliceEnd at e
  split at e
  · split at e
    · split at e
      · injection e with e; subst e; exact grow_bump hw
      · cases e
    · cases e
  · cases e

theorem aOp_grow (hw : h.wlim ≤ h.next) {o : Op} {v : Value} (e : aOp P h ρ o = some (v, h')) : Grow h h' := by
  unfold aOp at e
  repeat' split at e
  all_goals first
    | (cases e; done)
    | (have := aAlloc_grow hw e; exact this)
    | (have := aBuildSlice_grow hw e; exact this)
    | (have := aMakeSlice_grow hw e; exact this)
    | (have := aSliceEnd_grow hw e; exact this)
    | (simp only [Option.some.injEq, Prod.mk.injEq] at e; obtain ⟨_, rfl⟩ := e; first | exact Grow.refl _ | exact aStore_grow ‹_›)
    | (simp only [aBox, Option.some.injEq, Prod.mk.injEq] at e; obtain ⟨_, rfl⟩ := e; exact grow_new hw _)

theorem aBuiltin_grow (hw : h.wlim ≤ h.next) {b : Builtin} {ts : Array TypeId} {ty : TypeId} {args : List Value} {v : Value} (e : aBuiltin P h b ts ty args = some (v, h')) : Grow h h' := by
  unfold aBuiltin at e
  repeat' split at e
  all_goals first
    | (cases e; done)
    | (have := aAppend_grow hw e; exact this)
    | (have := aCopy_grow e; exact this)
    | (simp only [Option.some.injEq, Prod.mk.injEq] at e; obtain ⟨_, rfl⟩ := e; exact Grow.refl _)

theorem noAddrs_ren : ∀ (l : List Value), noAddrs l = true → l.map (ren φ κ) = l := by
  intro l
  induction l with
  | nil => intro _; rfl
  | cons v r ih =>
    intro e
    simp only [noAddrs, Bool.and_eq_true] at e
    simp [ren_noAddr _ _ _ e.1, ih e.2]

theorem aBuiltin_sound (R : Rel w0 φ κ h w) {b : Builtin} {ts : Array TypeId} {ty : TypeId} {consts : Array Bool} {args : List Value} {v : Value} (e : aBuiltin P h b ts ty args = some (v, h')) (o : ∀ x ∈ args, okV h.N κ x) :
    Sound w0 φ κ h h' v ((Go.builtin b ts ty consts (args.map (ren φ κ)).toArray).run P w) := by
  unfold aBuiltin at e
  split at e
  · rename_i a n c
    split at e
    · rename_i t ht
      split at e
      · rename_i el hu
        simp only [Option.some.injEq, Prod.mk.injEq] at e
        obtain ⟨rfl, rfl⟩ := e
        refine sound_same R (run_v ?_) (by simp [okV])
        have hx : ∃ a' c', ren φ κ (.slice a n c) = .slice a' n c' := by cases a <;> exact ⟨_, _, rfl⟩
        obtain ⟨a', c', hx⟩ := hx
        simp only [List.map_cons, List.map_nil, hx]
        unfold Builtin.len_
        simp only [ht, List.getElem?_toArray, List.getElem?_cons_zero, Sem.run_bind, run_underlying hu, Result.andThen_ok, Sem.run_pure]
        rfl
      · cases e
    · cases e
  · rename_i r
    split at e
    · rename_i t ht
      split at e
      · rename_i kt el es cl hu g
        simp only [Option.some.injEq, Prod.mk.injEq] at e
        obtain ⟨rfl, rfl⟩ := e
        refine sound_same R (run_v ?_) (by simp [okV])
        obtain ⟨m1, m2, m3⟩ := R.ent r _ g
        simp only [List.map_cons, List.map_nil, ren]
        unfold Builtin.len_
        simp only [ht, List.getElem?_toArray, List.getElem?_cons_zero, Sem.run_bind, run_underlying hu, Result.andThen_ok]
        simp [getObj, Sem.run, m2, goInt]
      · cases e
    · cases e
  · split at e
    · rename_i hn
      split at e
      · rename_i u hu
        split at e
        · rename_i hnu
          simp only [Option.some.injEq, Prod.mk.injEq] at e
          obtain ⟨rfl, rfl⟩ := e
          refine sound_same R (run_v ?_) (ok_noAddr _ _ _ hnu)
          rw [noAddrs_ren _ hn, ren_noAddr _ _ _ hnu]
          exact pureRun_run hu
        · cases e
      · cases e
    · cases e
  · rename_i a n c
    split at e
    · rename_i t ht
      split at e
      · rename_i el hu
        split at e
        · rename_i hc
          simp only [Option.some.injEq, Prod.mk.injEq] at e
          obtain ⟨rfl, rfl⟩ := e
          refine sound_same R (run_v ?_) (by simp [okV])
          have hx : ∃ a', ren φ κ (.slice a n c) = .slice a' n c := by cases a <;> simp [ren, hc]
          obtain ⟨a', hx⟩ := hx
          simp only [List.map_cons, List.map_nil, hx]
          unfold Builtin.cap_
          simp [ht, run_underlying hu, ren, goInt]
        · cases e
      · cases e
    · cases e
  · split at e
    · rename_i hn
      split at e
      · rename_i u hu
        split at e
        · rename_i hnu
          simp only [Option.some.injEq, Prod.mk.injEq] at e
          obtain ⟨rfl, rfl⟩ := e
          refine sound_same R (run_v ?_) (ok_noAddr _ _ _ hnu)
          rw [noAddrs_ren _ hn, ren_noAddr _ _ _ hnu]
          exact pureRun_run hu
        · cases e
      · cases e
    · cases e
  · split at e
    · rename_i hn
      split at e
      · rename_i u hu
        split at e
        · rename_i hnu
          simp only [Option.some.injEq, Prod.mk.injEq] at e
          obtain ⟨rfl, rfl⟩ := e
          refine sound_same R (run_v ?_) (ok_noAddr _ _ _ hnu)
          rw [noAddrs_ren _ hn, ren_noAddr _ _ _ hnu]
          exact pureRun_run hu
        · cases e
      · cases e
    · cases e
  · obtain ⟨φ', κ', w', h1, h2, h3⟩ := aAppend_sound (P := P) (ty := ty) R e (o _ (by simp))
    exact ⟨φ', κ', w', leaves_value (run_v h1), h2, h3⟩
  · obtain ⟨φ', κ', w', h1, h2, h3⟩ := aCopy_sound (P := P) (ty := ty) R e
    exact ⟨φ', κ', w', leaves_value (run_v h1), h2, h3⟩
  · cases e
end
end Go.Ev
