/-
  A machine for closed runs, eighth part: one operation.
-/
import Derived.Test.YtlkfcbdbieenhaaEvG
namespace Go.Ev
open Go Go.RowKit

abbrev Env := Operand → Option Value

def aEq (P : Program) (t : TypeId) (x y : Value) : Option Bool :=
  match P.underlying t, x, y with
  | some (.pointer _), .pointer none, .pointer b => some b.isNone
  | some (.pointer _), .pointer (some _), .pointer none => some false
  | some (.slice _), .slice none _ _, .slice b _ _ => some b.isNone
  | some (.slice _), .slice (some _) _ _, .slice none _ _ => some false
  | some (.map _ _), .map none, .map b => some b.isNone
  | some (.map _ _), .map (some _), .map none => some false
  | some (.func _ _ _), .nilFunc, .nilFunc => some true
  | some (.func _ _ _), .nilFunc, .func _ _ _ => some false
  | some (.func _ _ _), .func _ _ _, .nilFunc => some false
  | _, _, _ => none

def aArgs (ρ : Env) : List Operand → Option (List Value)
  | [] => some []
  | x :: r => match ρ x, aArgs ρ r with
    | some v, some l => some (v :: l)
    | _, _ => none
def aParts (ρ : Env) : List (Nat × Operand) → Option (List (Nat × Value))
  | [] => some []
  | (i, x) :: r => match ρ x, aParts ρ r with
    | some v, some l => some ((i, v) :: l)
    | _, _ => none
def aOptV (ρ : Env) : Option Operand → Option (Option Value)
  | none => some none
  | some x => match ρ x with
    | some v => some (some v)
    | none => none

def notNil : Value → Bool
  | .pointer none | .nilIface | .nilFunc => false
  | .func (.method _) _ _ => false
  | _ => true

def aIndex (P : Program) (t : TypeId) (x i : Value) : Option Value :=
  match P.underlying t, x, i with
  | some (.array n el), .agg cs, .int _ i =>
    match P.info? el with
    | some f => if 0 ≤ i ∧ i < (n : Int) then aPart P el cs (i.toNat * f.size) else none
    | none => none
  | _, _, _ => none

def aOp (P : Program) (h : AH) (ρ : Env) : Op → Option (Value × AH)
  | .move x | .assign x => match ρ x with
    | some v => some (v, h)
    | none => none
  | .pick c a b => match ρ c with
    | some (.bool t) => match ρ (if t then a else b) with
      | some v => some (v, h)
      | none => none
    | _ => none
  | .alloc e => aAlloc P h e
  | .box _ x => match ρ x with
    | some v => some (aBox h v)
    | none => none
  | .build t ps => match aParts ρ ps.toList with
    | some l => match aBuild P t l with
      | some v => some (v, h)
      | none => none
    | none => none
  | .buildSlice t n ps => match aParts ρ ps.toList with
    | some l => if n < openB then aBuildSlice P h t n l else none
    | none => none
  | .load t a => match ρ a with
    | some v => match aLoad P h t v with
      | some v => some (v, h)
      | none => none
    | none => none
  | .store t a x => match ρ a, ρ x with
    | some v, some u => match aStore P h t v u with
      | some h' => some (undef, h')
      | none => none
    | _, _ => none
  | .nilCheck x => match ρ x with
    | some v => if notNil v then some (v, h) else none
    | none => none
  | .binOp op xt x y _ => match ρ x, ρ y with
    | some a, some b =>
      if noAddr a && noAddr b then
        match pureRun P (do Go.eqGuard op xt x y a b; Go.binOp op xt a b) with
        | some v => if noAddr v then some (v, h) else none
        | none => none
      else match op with
        | .eql => match aEq P xt a b with
          | some t => some (.bool t, h)
          | none => none
        | .neq => match aEq P xt a b with
          | some t => some (.bool !t, h)
          | none => none
        | _ => none
    | _, _ => none
  | .unOp op _ x => match ρ x with
    | some a => if noAddr a then match pureRun P (Op.unary op a) with
        | some v => if noAddr v then some (v, h) else none
        | none => none
      else none
    | none => none
  | .convert s d x => match ρ x with
    | some a => if noAddr a then match pureRun P (Go.convert s d a) with
        | some v => if noAddr v then some (v, h) else none
        | none => none
      else none
    | none => none
  | .makeFunc fn first captured => match aArgs ρ first.toList, aArgs ρ captured.toList with
    | some f, some c => if noYield fn then some (.func fn ⟨f⟩ ⟨c⟩, h) else none
    | _, _ => none
  | .makeSlice t l c => match ρ l, ρ c with
    | some l, some c => aMakeSlice P h t l c
    | _, _ => none
  | .slice t x lo hi mx => match ρ x, aOptV ρ lo, aOptV ρ hi, aOptV ρ mx with
    | some x, some lo, some hi, some mx => match aSlice P t x lo hi mx with
      | some v => some (v, h)
      | none => aSliceEnd P h t x lo hi mx
    | _, _, _, _ => none
  | .fieldAddr s x f => match ρ x with
    | some x => match aFieldAddr P s f x with
      | some v => some (v, h)
      | none => none
    | none => none
  | .field t x f => match ρ x with
    | some x => match aField P t f x with
      | some v => some (v, h)
      | none => none
    | none => none
  | .indexAddr t x i => match ρ x, ρ i with
    | some x, some i => match aIndexAddr P t x i with
      | some v => some (v, h)
      | none => none
    | _, _ => none
  | .index t x i => match ρ x, ρ i with
    | some x, some i => match aIndex P t x i with
      | some v => some (v, h)
      | none => none
    | _, _ => none
  | .extract x i => match ρ x with
    | some x => match aExtract x i with
      | some v => some (v, h)
      | none => none
    | none => none
  | _ => none

def ERel (φ : Nat → Nat × Nat) (κ : Nat → Nat) (N : Nat → Prop) (ρ : Env) (ev : Operand → Value) : Prop := ∀ x v, ρ x = some v → ev x = ren φ κ v ∧ okV N κ v

section
variable {P : Program} {w0 w w' : World} {φ φ' : Nat → Nat × Nat} {κ κ' : Nat → Nat} {h h' : AH} {ρ : Env} {ev : Operand → Value}

theorem aArgs_sound {N : Nat → Prop} (E : ERel φ κ N ρ ev) : ∀ (l : List Operand) (vs : List Value), aArgs ρ l = some vs → l.map ev = vs.map (ren φ κ) ∧ ∀ v ∈ vs, okV N κ v := by
  intro l
  induction l with
  | nil => intro vs e; simp only [aArgs, Option.some.injEq] at e; subst e; simp
  | cons x r ih =>
    intro vs e
    simp only [aArgs] at e
    split at e
    · rename_i v l hx hr
      injection e with e
      subst e
      obtain ⟨i1, i2⟩ := ih _ hr
      obtain ⟨e1, e2⟩ := E x v hx
      exact ⟨by simp [i1, e1], fun u hu => by
        rcases List.mem_cons.1 hu with hu | hu
        · exact hu ▸ e2
        · exact i2 u hu⟩
    · cases e
theorem aParts_sound {N : Nat → Prop} (E : ERel φ κ N ρ ev) : ∀ (l : List (Nat × Operand)) (vs : List (Nat × Value)), aParts ρ l = some vs → (l.map fun p => (p.1, ev p.2)) = renP φ κ vs ∧ ∀ p ∈ vs, okV N κ p.2 := by
  intro l
  induction l with
  | nil => intro vs e; simp only [aParts, Option.some.injEq] at e; subst e; simp [renP]
  | cons x r ih =>
    obtain ⟨i, x⟩ := x
    intro vs e
    simp only [aParts] at e
    split at e
    · rename_i v l hx hr
      injection e with e
      subst e
      obtain ⟨i1, i2⟩ := ih _ hr
      obtain ⟨e1, e2⟩ := E x v hx
      refine ⟨?_, fun u hu => ?_⟩
      · simp only [List.map_cons, renP] at i1 ⊢
        rw [i1, e1]
      · rcases List.mem_cons.1 hu with hu | hu
        · exact hu ▸ e2
        · exact i2 u hu
    · cases e
theorem aOptV_sound {N : Nat → Prop} (E : ERel φ κ N ρ ev) {x : Option Operand} {v : Option Value} (e : aOptV ρ x = some v) : x.map ev = v.map (ren φ κ) := by
  cases x with
  | none => simp only [aOptV, Option.some.injEq] at e; subst e; rfl
  | some x =>
    simp only [aOptV] at e
    split at e
    · rename_i u hu
      injection e with e
      subst e
      simp [(E x u hu).1]
    · cases e

def plainK : Value → Bool
  | .nilIface | .agg _ => false
  | _ => true
theorem eqGuard_ok (op : BinOp) (t : TypeId) (xo yo : Operand) (u v : Value) (hu : plainK u = true) (w : World) : (Go.eqGuard op t xo yo u v).run P w = .ok () w := by
  cases u <;> first
    | (simp [plainK] at hu; done)
    | (cases op <;> rfl)

theorem aEq_sound {t : TypeId} {x y : Value} {b : Bool} (e : aEq P t x y = some b) (w : World) : (Op.equal t (ren φ κ x) (ren φ κ y)).run P w = .ok b w ∧ ∀ op xo yo, (Go.eqGuard op t xo yo (ren φ κ x) (ren φ κ y)).run P w = .ok () w := by
  have key : ∀ (d : TypeDesc) (u v : Value), P.underlying t = some d → (Op.equal t u v).run P w = (Op.equalIn (9999 + 1) t u v).run P w := fun _ _ _ _ => rfl
  unfold aEq at e
  split at e <;> first
    | (cases e; done)
    | (rename_i hu
       injection e with e
       subst e
       refine ⟨?_, ?_⟩
       · rw [key _ _ _ hu]
         unfold Op.equalIn
         rw [Sem.run_bind, run_underlying hu]
         first
           | rfl
           | (rename_i b; cases b <;> rfl)
           | (rename_i b _ _ _; cases b <;> rfl)
           | (rename_i b _ _; cases b <;> rfl)
           | (rename_i b _; cases b <;> rfl)
       · intro op xo yo
         exact eqGuard_ok op t xo yo _ _ (by first | rfl | (rename_i b; cases b <;> rfl)) w)

theorem aEq_binOp {t : TypeId} {x y : Value} {b : Bool} (e : aEq P t x y = some b) : Go.binOp .eql t (ren φ κ x) (ren φ κ y) = (do pure (.bool (← Op.equal t (ren φ κ x) (ren φ κ y)))) ∧ Go.binOp .neq t (ren φ κ x) (ren φ κ y) = (do pure (.bool (!(← Op.equal t (ren φ κ x) (ren φ κ y))))) := by
  unfold aEq at e
  split at e <;> first
    | (cases e; done)
    | (refine ⟨?_, ?_⟩ <;> first
        | rfl
        | (rename_i b _; cases b <;> rfl)
        | (rename_i b _ _; cases b <;> rfl)
        | (rename_i b _ _ _; cases b <;> rfl)
        | (rename_i b _ _ _ _; cases b <;> rfl))

/- what an operation leaves: a value in its slot, and the world behind it -/
def Leaves (r : Result Next) (v : Value) (w' : World) : Prop := r = .ok (.value v) w' ∨ (r = .ok .skip w' ∧ v = undef)

theorem leaves_value {r : Result Next} {v : Value} {w' : World} (e : r = .ok (.value v) w') : Leaves r v w' := .inl e
theorem leaves_skip {r : Result Next} {w' : World} (e : r = .ok .skip w') : Leaves r undef w' := .inr ⟨e, rfl⟩

theorem run_v {s : Sem Value} {v : Value} (e : s.run P w = .ok v w') : (do pure (.value (← s)) : Sem Next).run P w = .ok (.value v) w' := by
  rw [Sem.run_bind, e]; rfl
theorem run_u {s : Sem Unit} (e : s.run P w = .ok () w') : (do s; pure .skip : Sem Next).run P w = .ok .skip w' := by
  rw [Sem.run_bind, e]; rfl

def Sound (w0 : World) (φ : Nat → Nat × Nat) (κ : Nat → Nat) (h h' : AH) (v : Value) (r : Result Next) : Prop :=
  ∃ φ' κ' w', Leaves r (ren φ' κ' v) w' ∧ Step w0 φ κ h φ' κ' h' w' ∧ okV h'.N κ' v

theorem sound_same (R : Rel w0 φ κ h w) {v : Value} {r : Result Next} (e : r = .ok (.value (ren φ κ v)) w) (o : okV h.N κ v) : Sound w0 φ κ h h v r := ⟨φ, κ, w, leaves_value e, R.step, o⟩

theorem aIndex_sound {N : Nat → Prop} {t : TypeId} {x i v : Value} (e : aIndex P t x i = some v) (o : okV N κ x) :
    (Instr.index t (ren φ κ x) (ren φ κ i)).run P w = .ok (ren φ κ v) w ∧ okV N κ v := by
  unfold aIndex at e
  split at e
  · rename_i n el cs kk i hu
    split at e
    · rename_i f hf
      split at e
      · rename_i hi
        obtain ⟨h1, h2⟩ := aPart_sound (w := w) (φ := φ) e (by simpa only [okV] using o)
        refine ⟨?_, h2⟩
        unfold Instr.index
        simp only [ren, asIntOf, Sem.run_bind, Sem.run_pure, Result.andThen_ok, run_underlying hu, hi, and_self, if_true, run_sizeOf' hf, h1]
      · cases e
    · cases e
  · cases e

theorem notNil_sound {x : Value} (e : notNil x = true) (o : Oper) (xo : Operand) (ho : o.op = .nilCheck xo) (hx : ev xo = ren φ κ x) : (execOp ev o).run P w = .ok (.value (ren φ κ x)) w := by
  unfold execOp
  rw [ho]
  simp only [hx]
  cases x with
  | pointer a => cases a with
    | none => simp [notNil] at e
    | some a => rfl
  | slice a n c => cases a <;> rfl
  | map a => cases a <;> rfl
  | func fn first captured => cases fn with
    | method _ => simp [notNil] at e
    | _ => simp only [ren, renF]; rfl
  | nilFunc => simp [notNil] at e
  | nilIface => simp [notNil] at e
  | _ => rfl

theorem aOp_sound (R : Rel w0 φ κ h w) (E : ERel φ κ h.N ρ ev) {o : Oper} {v : Value} (e : aOp P h ρ o.op = some (v, h')) : Sound w0 φ κ h h' v ((execOp ev o).run P w) := by
  obtain ⟨dst, op, ty, pos, after, guard⟩ := o
  dsimp only at e
  cases op with
  | move x =>
    simp only [aOp] at e
    split at e
    · rename_i u hu
      simp only [Option.some.injEq, Prod.mk.injEq] at e
      obtain ⟨rfl, rfl⟩ := e
      exact sound_same R (by show Result.ok _ _ = _; rw [(E x _ hu).1]) (E x _ hu).2
    · cases e
  | assign x =>
    simp only [aOp] at e
    split at e
    · rename_i u hu
      simp only [Option.some.injEq, Prod.mk.injEq] at e
      obtain ⟨rfl, rfl⟩ := e
      exact sound_same R (by show Result.ok _ _ = _; rw [(E x _ hu).1]) (E x _ hu).2
    · cases e
  | pick c a b =>
    simp only [aOp] at e
    split at e
    · rename_i t ht
      split at e
      · rename_i u hu
        simp only [Option.some.injEq, Prod.mk.injEq] at e
        obtain ⟨rfl, rfl⟩ := e
        have hc := (E c _ ht).1
        refine sound_same R ?_ (E _ _ hu).2
        unfold execOp
        simp only [hc, ren, asBool, Sem.run_bind, Sem.run_pure, Result.andThen_ok]
        rw [← (E _ _ hu).1]
        cases t <;> rfl
      · cases e
    · cases e
  | alloc t =>
    simp only [aOp] at e
    obtain ⟨φ', κ', w', h1, h2, h3⟩ := aAlloc_sound (P := P) R e
    exact ⟨φ', κ', w', leaves_value (run_v h1), h2, h3⟩
  | box t x =>
    simp only [aOp] at e
    split at e
    · rename_i u hu
      injection e with e
      obtain ⟨φ', κ', w', h1, h2, h3⟩ := aBox_sound (P := P) (el := t) R (E x u hu).2
      rw [e] at h1 h2 h3
      refine ⟨φ', κ', w', leaves_value (run_v ?_), h2, h3⟩
      rw [(E x u hu).1]
      exact h1
    · cases e
  | build t ps =>
    simp only [aOp] at e
    split at e
    · rename_i l hl
      split at e
      · rename_i u hu
        simp only [Option.some.injEq, Prod.mk.injEq] at e
        obtain ⟨rfl, rfl⟩ := e
        obtain ⟨p1, p2⟩ := aParts_sound E _ _ hl
        obtain ⟨h1, h2⟩ := aBuild_sound (w := w) (φ := φ) hu p2
        refine sound_same R (run_v ?_) h2
        have : (ps.map fun (i, x) => (i, ev x)) = (renP φ κ l).toArray := by
          apply Array.ext'
          rw [← p1]
          simp
        rw [this]
        exact h1
      · cases e
    · cases e
  | buildSlice t n ps =>
    simp only [aOp] at e
    split at e
    · rename_i l hl
      split at e
      · rename_i hn
        obtain ⟨p1, p2⟩ := aParts_sound E _ _ hl
        obtain ⟨φ', κ', w', h1, h2, h3⟩ := aBuildSlice_sound (P := P) R e p2 hn
        refine ⟨φ', κ', w', leaves_value (run_v ?_), h2, h3⟩
        have : (ps.map fun (i, x) => (i, ev x)) = (renP φ κ l).toArray := by
          apply Array.ext'
          rw [← p1]
          simp
        rw [this]
        exact h1
      · cases e
    · cases e
  | load t a =>
    simp only [aOp] at e
    split at e
    · rename_i u hu
      split at e
      · rename_i v' hv
        simp only [Option.some.injEq, Prod.mk.injEq] at e
        obtain ⟨rfl, rfl⟩ := e
        obtain ⟨h1, h2⟩ := aLoad_sound (P := P) R hv
        exact sound_same R (run_v (by rw [(E a u hu).1]; exact h1)) h2
      · cases e
    · cases e
  | store t a x =>
    simp only [aOp] at e
    split at e
    · rename_i u x' hu hx
      split at e
      · rename_i h2 hs
        simp only [Option.some.injEq, Prod.mk.injEq] at e
        obtain ⟨rfl, rfl⟩ := e
        obtain ⟨w', h1, h2⟩ := aStore_sound (P := P) R hs (E x _ hx).2
        exact ⟨φ, κ, w', leaves_skip (run_u (by rw [(E a u hu).1, (E x _ hx).1]; exact h1)), h2, by simp [undef, okV, okA, okL]⟩
      · cases e
    · cases e
  | nilCheck x =>
    simp only [aOp] at e
    split at e
    · rename_i u hu
      split at e
      · rename_i hn
        simp only [Option.some.injEq, Prod.mk.injEq] at e
        obtain ⟨rfl, rfl⟩ := e
        exact sound_same R (notNil_sound hn _ x rfl (E x _ hu).1) (E x _ hu).2
      · cases e
    · cases e
  | binOp op xt x y yt =>
    simp only [aOp] at e
    split at e
    · rename_i a b ha hb
      split at e
      · rename_i hn
        simp only [Bool.and_eq_true] at hn
        split at e
        · rename_i u hu
          split at e
          · rename_i hnu
            simp only [Option.some.injEq, Prod.mk.injEq] at e
            obtain ⟨rfl, rfl⟩ := e
            refine sound_same R (run_v ?_) (ok_noAddr _ _ _ hnu)
            rw [(E x a ha).1, (E y b hb).1, ren_noAddr _ _ _ hn.1, ren_noAddr _ _ _ hn.2, ren_noAddr _ _ _ hnu]
            exact pureRun_run hu
          · cases e
        · cases e
      · split at e
        · split at e
          · rename_i t ht
            simp only [Option.some.injEq, Prod.mk.injEq] at e
            obtain ⟨rfl, rfl⟩ := e
            obtain ⟨h1, h2⟩ := aEq_sound (φ := φ) (κ := κ) ht w
            refine sound_same R (run_v ?_) (by simp [okV])
            rw [(E x a ha).1, (E y b hb).1, Sem.run_bind, h2]
            show (Go.binOp .eql xt _ _).run P w = _
            rw [(aEq_binOp ht).1, Sem.run_bind, h1]
            rfl
          · cases e
        · split at e
          · rename_i t ht
            simp only [Option.some.injEq, Prod.mk.injEq] at e
            obtain ⟨rfl, rfl⟩ := e
            obtain ⟨h1, h2⟩ := aEq_sound (φ := φ) (κ := κ) ht w
            refine sound_same R (run_v ?_) (by simp [okV])
            rw [(E x a ha).1, (E y b hb).1, Sem.run_bind, h2]
            show (Go.binOp .neq xt _ _).run P w = _
            rw [(aEq_binOp ht).2, Sem.run_bind, h1]
            rfl
          · cases e
        · cases e
    · cases e
  | unOp op t x =>
    simp only [aOp] at e
    split at e
    · rename_i a ha
      split at e
      · rename_i hn
        split at e
        · rename_i u hu
          split at e
          · rename_i hnu
            simp only [Option.some.injEq, Prod.mk.injEq] at e
            obtain ⟨rfl, rfl⟩ := e
            refine sound_same R (run_v ?_) (ok_noAddr _ _ _ hnu)
            rw [(E x a ha).1, ren_noAddr _ _ _ hn, ren_noAddr _ _ _ hnu]
            exact pureRun_run hu
          · cases e
        · cases e
      · cases e
    · cases e
  | convert s d x =>
    simp only [aOp] at e
    split at e
    · rename_i a ha
      split at e
      · rename_i hn
        split at e
        · rename_i u hu
          split at e
          · rename_i hnu
            simp only [Option.some.injEq, Prod.mk.injEq] at e
            obtain ⟨rfl, rfl⟩ := e
            refine sound_same R (run_v ?_) (ok_noAddr _ _ _ hnu)
            rw [(E x a ha).1, ren_noAddr _ _ _ hn, ren_noAddr _ _ _ hnu]
            exact pureRun_run hu
          · cases e
        · cases e
      · cases e
    · cases e
  | makeFunc fn first captured =>
    simp only [aOp] at e
    split at e
    · rename_i f c hf hc
      split at e
      rotate_left
      · cases e
      rename_i hny
      simp only [Option.some.injEq, Prod.mk.injEq] at e
      obtain ⟨rfl, rfl⟩ := e
      obtain ⟨f1, f2⟩ := aArgs_sound E _ _ hf
      obtain ⟨c1, c2⟩ := aArgs_sound E _ _ hc
      refine sound_same R (run_v ?_) (by simp only [okV, okA, okL_iff]; exact ⟨okF_no _ hny, f2, c2⟩)
      have q1 : first.map ev = (f.map (ren φ κ)).toArray := by apply Array.ext'; simpa using f1
      have q2 : captured.map ev = (c.map (ren φ κ)).toArray := by apply Array.ext'; simpa using c1
      rw [q1, q2]
      simp [Instr.makeFunc, ren, renA, renL_map, renF_no φ hny]
    · cases e
  | makeSlice t l c =>
    simp only [aOp] at e
    split at e
    · rename_i a b ha hb
      obtain ⟨φ', κ', w', h1, h2, h3⟩ := aMakeSlice_sound (P := P) R e
      exact ⟨φ', κ', w', leaves_value (run_v (by rw [(E l a ha).1, (E c b hb).1]; exact h1)), h2, h3⟩
    · cases e
  | slice t x lo hi mx =>
    simp only [aOp] at e
    split at e
    · rename_i a l b m ha hl hb hm
      split at e
      · rename_i u hu
        simp only [Option.some.injEq, Prod.mk.injEq] at e
        obtain ⟨rfl, rfl⟩ := e
        obtain ⟨h1, h2⟩ := aSlice_sound (P := P) (w := w) (φ := φ) hu (E x a ha).2
        exact sound_same R (run_v (by rw [(E x a ha).1, aOptV_sound E hl, aOptV_sound E hb, aOptV_sound E hm]; exact h1)) h2
      · obtain ⟨φ', κ', w', h1, h2, h3⟩ := aSliceEnd_sound (P := P) R e (E x a ha).2
        exact ⟨φ', κ', w', leaves_value (run_v (by rw [(E x a ha).1, aOptV_sound E hl, aOptV_sound E hb, aOptV_sound E hm]; exact h1)), h2, h3⟩
    · cases e
  | fieldAddr s x f =>
    simp only [aOp] at e
    split at e
    · rename_i a ha
      split at e
      · rename_i u hu
        simp only [Option.some.injEq, Prod.mk.injEq] at e
        obtain ⟨rfl, rfl⟩ := e
        obtain ⟨h1, h2⟩ := aFieldAddr_sound (P := P) (w := w) (φ := φ) hu (E x a ha).2
        exact sound_same R (run_v (by rw [(E x a ha).1]; exact h1)) h2
      · cases e
    · cases e
  | field t x f =>
    simp only [aOp] at e
    split at e
    · rename_i a ha
      split at e
      · rename_i u hu
        simp only [Option.some.injEq, Prod.mk.injEq] at e
        obtain ⟨rfl, rfl⟩ := e
        obtain ⟨h1, h2⟩ := aField_sound (P := P) (w := w) (φ := φ) hu (E x a ha).2
        exact sound_same R (run_v (by rw [(E x a ha).1]; exact h1)) h2
      · cases e
    · cases e
  | indexAddr t x i =>
    simp only [aOp] at e
    split at e
    · rename_i a b ha hb
      split at e
      · rename_i u hu
        simp only [Option.some.injEq, Prod.mk.injEq] at e
        obtain ⟨rfl, rfl⟩ := e
        obtain ⟨h1, h2⟩ := aIndexAddr_sound (P := P) (w := w) (φ := φ) hu (E x a ha).2
        exact sound_same R (run_v (by rw [(E x a ha).1, (E i b hb).1]; exact h1)) h2
      · cases e
    · cases e
  | index t x i =>
    simp only [aOp] at e
    split at e
    · rename_i a b ha hb
      split at e
      · rename_i u hu
        simp only [Option.some.injEq, Prod.mk.injEq] at e
        obtain ⟨rfl, rfl⟩ := e
        obtain ⟨h1, h2⟩ := aIndex_sound (P := P) (w := w) (φ := φ) hu (E x a ha).2
        exact sound_same R (run_v (by rw [(E x a ha).1, (E i b hb).1]; exact h1)) h2
      · cases e
    · cases e
  | extract x i =>
    simp only [aOp] at e
    split at e
    · rename_i a ha
      split at e
      · rename_i u hu
        simp only [Option.some.injEq, Prod.mk.injEq] at e
        obtain ⟨rfl, rfl⟩ := e
        obtain ⟨h1, h2⟩ := aExtract_sound (P := P) (w := w) (φ := φ) hu (E x a ha).2
        exact sound_same R (run_v (by rw [(E x a ha).1]; exact h1)) h2
      · cases e
    · cases e
  | _ => simp [aOp] at e
end
end Go.Ev
