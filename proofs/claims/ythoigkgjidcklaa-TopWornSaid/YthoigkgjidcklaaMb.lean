/-
  Walks on memory by names: the machine (Mb).
-/
import Derived.Test.YthoigkgjidcklaaMx
import Derived.Orders
import Derived.OrdersIn
import Derived.LoopNIn
import Derived.RangeFuncLeaves
set_option linter.unusedSimpArgs false
set_option linter.unusedVariables false
/- VmK: A machine for closed runs, eleventh part: a region that draws its order. -/
namespace Go.Vm
open Go Go.RowKit

def maskOf (ms : List Nat) (o : Oper) : Nat := o.after.toList.foldl (fun s e => if Region.binds .any e then s ||| 2 ^ e.on ||| ms.getD e.on 0 else s) 0
def masks : List Nat → List Oper → List Nat
  | acc, [] => acc
  | acc, o :: r => masks (acc ++ [maskOf acc o]) r

/- operations that look at no memory -/
def isPure : Op → Bool
  | .move _ | .assign _ | .pick .. | .build .. | .nilCheck _ | .binOp .. | .unOp .. | .convert .. | .makeFunc .. | .fieldAddr .. | .field .. | .indexAddr .. | .index .. | .extract .. => true
  | .call c => match c.callee with | .builtin .min | .builtin .max => true | _ => false
  | _ => false

def tmpOf : Operand → Option Nat
  | .tmp t => some t
  | _ => none
def touch (ops : Array Oper) (o : Oper) : List Nat :=
  o.dst.toList ++ o.op.operands.toList.filterMap tmpOf ++ (match o.guard with | some (g, _) => ((ops[g]?).bind (·.dst)).toList | none => [])

def aEnvT (ts : List Nat) (t : Tr Value) : Env
  | .tmp i => if ts.contains i then t.get i else none
  | .const v => if noAddr v then some v else none
  | .global _ => none
  | .func f => some (.func (.func f) #[] #[])

def before (ms : List Nat) (j i : Nat) : Bool := (ms.getD i 0).testBit j
def ordered (ms : List Nat) (j i : Nat) : Bool := if j < i then before ms j i else before ms i j

/- whoever writes a slot that i touches stands before or behind i in every order -/
def slotsOk (ops : Array Oper) (ms : List Nat) : Bool :=
  ops.toList.zipIdx.all fun p => p.1.after.toList.all (fun e => !Region.binds .any e || decide (e.on < p.2)) &&
    ops.toList.zipIdx.all fun q => decide (q.2 = p.2) || (match q.1.dst with | some d => !(touch ops p.1).contains d || ordered ms q.2 p.2 | none => true)

def isBar (ops : Array Oper) (ms : List Nat) (i : Nat) (o : Oper) : Bool :=
  !isPure o.op && ops.toList.zipIdx.all fun q => decide (q.2 = i) || isPure q.1.op || ordered ms q.2 i

/- what an operation that only reads sees of memory -/
def AH.view (h : AH) (ms : List Nat) (i : Nat) (news : List (Nat × Nat × Nat)) : AH :=
  { h with wlim := h.next, hid := h.hid ++ (news.filter fun x => decide (x.2.1 < x.2.2) && !before ms x.1 i).map (·.2) }

/- stores into blocks that were made in the same piece of a region -/
def AH.lview (h : AH) (ms : List Nat) (i : Nat) (news : List (Nat × Nat × Nat)) : AH := { h.view ms i news with wlim := h.wlim }
def wOK (ms : List Nat) (i : Nat) (o : Oper) (news : List (Nat × Nat × Nat)) : Bool := isPure o.op || news.all fun x => decide (x.2.1 ≤ x.2.2) || before ms x.1 i
/- an append in a region that draws its order -/
def appAt (ops : Array Oper) (m : Nat) : Bool := match ops[m]? with | some o => isApp o.op | none => false
def barAt (ops : Array Oper) (ms : List Nat) (m : Nat) : Bool := match ops[m]? with | some o => isBar ops ms m o | none => true
def oldName (k : Nat) (news : List (Nat × Nat × Nat)) : Bool := news.all fun x => !(decide (x.2.1 ≤ k) && decide (k < x.2.2))
def pureAt (ops : Array Oper) (m : Nat) : Bool := match ops[m]? with | some o => isPure o.op | none => true
def cfl (ops : Array Oper) (ms : List Nat) (i : Nat) : Nat → Nat
  | 0 => 0
  | m + 1 => if pureAt ops m || before ms m i then cfl ops ms i m else cfl ops ms i m ||| ms.getD m 0
def locOK (ops : Array Oper) (ms : List Nat) (i k : Nat) (news : List (Nat × Nat × Nat)) : Bool := news.any fun x => decide (x.2.1 ≤ k) && decide (k < x.2.2) && before ms x.1 i && !(cfl ops ms i i).testBit x.1 && !appAt ops x.1
def stName (ρ : Env) (o : Oper) : Option Nat := match o.op with
  | .store _ a _ => match ρ a with
    | some (.pointer (some a)) => some a.block
    | _ => none
  | _ => none

/-- Values of one cell that are the same, as far as it is looked at. -/
def sameV : Value → Value → Bool
  | .bool a, .bool b => a == b
  | .int k a, .int k' b => decide (k = k') && decide (a = b)
  | .pointer none, .pointer none => true
  | .pointer (some a), .pointer (some b) => decide (a = b)
  | .slice none n c, .slice none n' c' => decide (n = n') && decide (c = c')
  | .slice (some a) n c, .slice (some b) n' c' => decide (a = b) && decide (n = n') && decide (c = c')
  | _, _ => false
theorem sameV_eq {a b : Value} (h : sameV a b = true) : a = b := by
  unfold sameV at h
  split at h <;> simp_all
def sameL : List Value → List Value → Bool
  | [], [] => true
  | a :: r, b :: s => sameV a b && sameL r s
  | _, _ => false
theorem sameL_eq : ∀ {a b : List Value}, sameL a b = true → a = b
  | [], [], _ => rfl
  | a :: r, b :: s, h => by
    simp only [sameL, Bool.and_eq_true] at h
    rw [sameV_eq h.1, sameL_eq h.2]
  | [], _ :: _, h => by cases h
  | _ :: _, [], h => by cases h
/-- A store that leaves its block as it was. -/
def sameAt (h' g : AH) (k : Nat) : Bool := match h'.get k, g.get k with
  | some (.cells b'), some (.cells b) => sameL b'.cells b.cells
  | _, _ => false

/-- Loads of numbers may stand on either side of a store into another block. -/
def isLd : Op → Bool
  | .load _ _ => true
  | _ => false
def isSto : Op → Bool
  | .store _ _ _ => true
  | _ => false
/-- A store into a block that the same piece made: it is done as a local store, not as a soft bar. -/
def isMk : Op → Bool
  | .alloc _ => true
  | _ => false
def locSto (ops : Array Oper) (i : Nat) (o : Oper) : Bool := match o.op with
  | .store _ (.tmp s) _ => (List.range i).any fun j => match ops[j]? with
    | some p => decide (p.dst = some s) && isMk p.op
    | none => false
  | _ => false
def isSoft (ops : Array Oper) (ms : List Nat) (i : Nat) (o : Oper) : Bool :=
  (isSto o.op && !locSto ops i o) && (ops.toList.zipIdx.all fun q => decide (q.2 = i) || isPure q.1.op || ordered ms q.2 i || (decide (q.2 < i) && isLd q.1.op)) && (List.range i).all fun j => !appAt ops j || barAt ops ms j
def unwr (ops : Array Oper) (d j i : Nat) : Bool := (List.range' j (i - j)).all fun m => decide ((ops[m]?).bind (·.dst) ≠ some d)
def lateOK (ops : Array Oper) (j i : Nat) (t : Tr Value) (k : Nat) (o : Oper) : Bool :=
  o.guard.isNone && match o.op, o.dst with
    | .load _ (.tmp s), some d => unwr ops s j i && unwr ops d (j + 1) i && (match t.get s with
      | some (.pointer (some a)) => decide (a.block ≠ k)
      | _ => false) && (match t.get d with
      | some v => noAddr v
      | none => false)
    | _, _ => false
def exOK (ops : Array Oper) (ms : List Nat) (i k : Nat) (t : Tr Value) : Bool :=
  (List.range i).all fun j => match ops[j]? with
    | some o => !isLd o.op || before ms j i || lateOK ops j i t k o
    | none => true
def softAt (ops : Array Oper) (ms : List Nat) (i : Nat) (o : Oper) (t : Tr Value) : Bool :=
  isSoft ops ms i o && match stName (aEnvT (touch ops o) t) o with
    | some k => exOK ops ms i k t
    | none => false

/- an append to an open row of before: its name is dead behind it -/
def killStep (P : Program) (call : CallF) (g : AH) (ρ : Env) (o : Oper) (news : List (Nat × Nat × Nat)) : Option (Value × AH) := match killName g ρ o with
  | some k => if oldName k news then match aStep P call g ρ o with
    | some (v, h') => if h'.next = g.next + 1 then some (v, h') else none
    | none => none
    else none
  | none => none

def aDraw (P : Program) (call : CallF) (nt : Nat) (ops : Array Oper) (ms : List Nat) : Nat → List Oper → Tr Value → AH → List (Nat × Nat × Nat) → Option (Tr Value × AH)
  | _, [], t, h, _ => some (t, h)
  | i, o :: r, t, h, news =>
    match aWant ops t o with
    | some true =>
      if isBar ops ms i o || softAt ops ms i o t then
        match aStep P call h (aEnvT (touch ops o) t) o with
        | some (v, h') => match aPut nt t o.dst v with
          | some t' => aDraw P call nt ops ms (i + 1) r t' h' []
          | none => none
        | none => none
      else
        if wOK ms i o news then
          match stName (aEnvT (touch ops o) t) o with
          | some k => if locOK ops ms i k news then
              match aStep P call (h.lview ms i news) (aEnvT (touch ops o) t) o with
              | some (v, h') => match aPut nt t o.dst v with
                | some t' => aDraw P call nt ops ms (i + 1) r t' { h' with hid := h.hid } ((i, k + 1, k) :: news)
                | none => none
              | none => none
            else match aStep P call (h.lview ms i news) (aEnvT (touch ops o) t) o with
              | some (v, h') => if sameAt h' (h.lview ms i news) k then
                  match aPut nt t o.dst v with
                  | some t' => aDraw P call nt ops ms (i + 1) r t' h ((i, h.next, h.next) :: news)
                  | none => none
                else none
              | none => none
          | none => match killStep P call (h.lview ms i news) (aEnvT (touch ops o) t) o news with
            | some (v, h') => match aPut nt t o.dst v with
              | some t' => aDraw P call nt ops ms (i + 1) r t' { h' with hid := h.hid } ((i, h.next, h'.next) :: news)
              | none => none
            | none => match aStep P call (h.view ms i news) (aEnvT (touch ops o) t) o with
              | some (v, h') => match aPut nt t o.dst v with
                | some t' => aDraw P call nt ops ms (i + 1) r t' { h' with wlim := h.wlim, hid := h.hid } ((i, h.next, h'.next) :: news)
                | none => none
              | none => none
        else none
    | some false => match aPut nt t o.dst undef with
      | some t' => aDraw P call nt ops ms (i + 1) r t' h ((i, h.next, h.next) :: news)
      | none => none
    | none => none

/- the same, calls being a relation -/
def rDraw (P : Program) (C : CallR) (nt : Nat) (ops : Array Oper) (ms : List Nat) : Nat → List Oper → Tr Value → AH → List (Nat × Nat × Nat) → Tr Value → AH → Prop
  | _, [], t, h, _, t', h' => t' = t ∧ h' = h
  | i, o :: r, t, h, news, t', h' =>
    (aWant ops t o = some true ∧ (isBar ops ms i o = true ∨ softAt ops ms i o t = true) ∧ ∃ v h1 t1, rStep P C h (aEnvT (touch ops o) t) o v h1 ∧ aPut nt t o.dst v = some t1 ∧ rDraw P C nt ops ms (i + 1) r t1 h1 [] t' h') ∨
    (aWant ops t o = some true ∧ isBar ops ms i o = false ∧ wOK ms i o news = true ∧ ∃ v h1 t1, rStep P C (h.view ms i news) (aEnvT (touch ops o) t) o v h1 ∧ aPut nt t o.dst v = some t1 ∧ rDraw P C nt ops ms (i + 1) r t1 { h1 with wlim := h.wlim, hid := h.hid } ((i, h.next, h1.next) :: news) t' h') ∨
    (aWant ops t o = some true ∧ isBar ops ms i o = false ∧ wOK ms i o news = true ∧ ∃ k v h1 t1, stName (aEnvT (touch ops o) t) o = some k ∧ locOK ops ms i k news = true ∧ rStep P C (h.lview ms i news) (aEnvT (touch ops o) t) o v h1 ∧ aPut nt t o.dst v = some t1 ∧ rDraw P C nt ops ms (i + 1) r t1 { h1 with hid := h.hid } ((i, k + 1, k) :: news) t' h') ∨
    (aWant ops t o = some false ∧ ∃ t1, aPut nt t o.dst undef = some t1 ∧ rDraw P C nt ops ms (i + 1) r t1 h ((i, h.next, h.next) :: news) t' h') ∨
    (aWant ops t o = some true ∧ isBar ops ms i o = false ∧ wOK ms i o news = true ∧ ∃ k v h1 t1, stName (aEnvT (touch ops o) t) o = some k ∧ sameAt h1 (h.lview ms i news) k = true ∧ rStep P C (h.lview ms i news) (aEnvT (touch ops o) t) o v h1 ∧ aPut nt t o.dst v = some t1 ∧ rDraw P C nt ops ms (i + 1) r t1 h ((i, h.next, h.next) :: news) t' h') ∨
    (aWant ops t o = some true ∧ isBar ops ms i o = false ∧ wOK ms i o news = true ∧ ∃ k v h1 t1, killName (h.lview ms i news) (aEnvT (touch ops o) t) o = some k ∧ oldName k news = true ∧ h1.next = h.next + 1 ∧ rStep P C (h.lview ms i news) (aEnvT (touch ops o) t) o v h1 ∧ aPut nt t o.dst v = some t1 ∧ rDraw P C nt ops ms (i + 1) r t1 { h1 with hid := h.hid } ((i, h.next, h1.next) :: news) t' h')
theorem killStep_is {P : Program} {call : CallF} {g : AH} {ρ : Env} {o : Oper} {news : List (Nat × Nat × Nat)} {v : Value} {h' : AH} (e : killStep P call g ρ o news = some (v, h')) : ∃ k, killName g ρ o = some k ∧ oldName k news = true ∧ h'.next = g.next + 1 ∧ aStep P call g ρ o = some (v, h') := by
  unfold killStep at e
  split at e
  · rename_i k hk
    split at e
    · rename_i hn
      split at e
      · rename_i v1 h1 hs
        split at e
        · rename_i hx
          injection e with e
          injection e with e1 e2
          subst e1 e2
          exact ⟨k, hk, hn, hx, hs⟩
        · cases e
      · cases e
    · cases e
  · cases e
theorem rDraw_of {P : Program} {call : CallF} {nt : Nat} {ops : Array Oper} {ms : List Nat} : ∀ (r : List Oper) (i : Nat) (t : Tr Value) (h : AH) (news : List (Nat × Nat × Nat)) (t' : Tr Value) (h' : AH), aDraw P call nt ops ms i r t h news = some (t', h') → rDraw P call.rel nt ops ms i r t h news t' h' := by
  intro r
  induction r with
  | nil =>
    intro i t h news t' h' e
    simp only [aDraw, Option.some.injEq, Prod.mk.injEq] at e
    exact ⟨e.1.symm, e.2.symm⟩
  | cons o r ih =>
    intro i t h news t' h' e
    simp only [aDraw] at e
    split at e
    · rename_i hw
      split at e
      · rename_i hb
        split at e
        · rename_i v h1 hs
          split at e
          · rename_i t1 hpt
            exact .inl ⟨hw, by simpa using hb, v, h1, t1, rStep_of hs, hpt, ih _ _ _ _ _ _ e⟩
          · cases e
        · cases e
      · rename_i hb2
        have hb : isBar ops ms i o = false := by
          simp only [Bool.or_eq_true, not_or] at hb2
          simpa using hb2.1
        split at e
        · rename_i hwk
          split at e
          · rename_i k hk
            split at e
            · rename_i hl
              split at e
              · rename_i v h1 hs
                split at e
                · rename_i t1 hpt
                  exact .inr (.inr (.inl ⟨hw, hb, hwk, k, v, h1, t1, hk, hl, rStep_of hs, hpt, ih _ _ _ _ _ _ e⟩))
                · cases e
              · cases e
            · split at e
              · rename_i v h1 hs
                split at e
                · rename_i hsame
                  split at e
                  · rename_i t1 hpt
                    exact .inr (.inr (.inr (.inr (.inl ⟨hw, hb, hwk, k, v, h1, t1, hk, hsame, rStep_of hs, hpt, ih _ _ _ _ _ _ e⟩))))
                  · cases e
                · cases e
              · cases e
          · split at e
            · rename_i v h1 hks
              obtain ⟨k, hk, hn, hx, hs⟩ := killStep_is hks
              split at e
              · rename_i t1 hpt
                exact .inr (.inr (.inr (.inr (.inr ⟨hw, hb, hwk, k, v, h1, t1, hk, hn, hx, rStep_of hs, hpt, ih _ _ _ _ _ _ e⟩))))
              · cases e
            · split at e
              · rename_i v h1 hs
                split at e
                · rename_i t1 hpt
                  exact .inr (.inl ⟨hw, hb, hwk, v, h1, t1, rStep_of hs, hpt, ih _ _ _ _ _ _ e⟩)
                · cases e
              · cases e
        · cases e
    · rename_i hw
      split at e
      · rename_i t1 hpt
        exact .inr (.inr (.inr (.inl ⟨hw, t1, hpt, ih _ _ _ _ _ _ e⟩)))
      · cases e
    · cases e

def aRegion (P : Program) (call : CallF) (nt : Nat) (ops : Array Oper) (t : Tr Value) (h : AH) : Option (Tr Value × AH) :=
  let ms := masks [] ops.toList
  if slotsOk ops ms then aDraw P call nt ops ms 0 ops.toList t h [] else none

/- what was reckoned, operation by operation in the order of the text -/
structure Log where
  t : Nat → Tr Value
  h : Nat → AH
  v : Nat → Value
  p : Nat → Nat
  w : Nat → Option Nat

def Log.ne (L : Log) (j : Nat) : Nat × Nat × Nat := match L.w j with
  | none => (j, (L.h j).next, (L.h (j + 1)).next)
  | some k => (j, k + 1, k)
def Log.news (L : Log) (i : Nat) : List (Nat × Nat × Nat) := (List.range' (L.p i) (i - L.p i)).reverse.map L.ne
def Log.hin (L : Log) (ms : List Nat) (i : Nat) : AH := (L.h i).view ms i (L.news i)
def Log.lin (L : Log) (ms : List Nat) (i : Nat) : AH := (L.h i).lview ms i (L.news i)

inductive LogAt (P : Program) (call : CallR) (nt : Nat) (ops : Array Oper) (ms : List Nat) (L : Log) (i : Nat) (o : Oper) : Prop where
  | skip (hw : aWant ops (L.t i) o = some false) (hv : L.v i = undef) (ht : aPut nt (L.t i) o.dst undef = some (L.t (i + 1))) (hh : L.h (i + 1) = L.h i) (hp : L.p (i + 1) = L.p i) (hn : L.w i = none)
  | bar (hw : aWant ops (L.t i) o = some true) (hb : isBar ops ms i o = true ∨ softAt ops ms i o (L.t i) = true) (hs : rStep P call (L.h i) (aEnvT (touch ops o) (L.t i)) o (L.v i) (L.h (i + 1))) (ht : aPut nt (L.t i) o.dst (L.v i) = some (L.t (i + 1))) (hp : L.p (i + 1) = i + 1) (hn : L.w i = none)
  | read (hw : aWant ops (L.t i) o = some true) (hb : isBar ops ms i o = false) (hk : wOK ms i o (L.news i) = true) (h' : AH) (hs : rStep P call (L.hin ms i) (aEnvT (touch ops o) (L.t i)) o (L.v i) h') (ht : aPut nt (L.t i) o.dst (L.v i) = some (L.t (i + 1))) (hh : L.h (i + 1) = { h' with wlim := (L.h i).wlim, hid := (L.h i).hid }) (hp : L.p (i + 1) = L.p i) (hn : L.w i = none)
  | sil (hw : aWant ops (L.t i) o = some true) (hb : isBar ops ms i o = false) (hk : wOK ms i o (L.news i) = true) (k : Nat) (hsn : stName (aEnvT (touch ops o) (L.t i)) o = some k) (h' : AH) (hsame : sameAt h' (L.lin ms i) k = true) (hs : rStep P call (L.lin ms i) (aEnvT (touch ops o) (L.t i)) o (L.v i) h') (ht : aPut nt (L.t i) o.dst (L.v i) = some (L.t (i + 1))) (hh : L.h (i + 1) = L.h i) (hp : L.p (i + 1) = L.p i) (hn : L.w i = none)
  | lst (hw : aWant ops (L.t i) o = some true) (hb : isBar ops ms i o = false) (hk : wOK ms i o (L.news i) = true) (k : Nat) (hsn : stName (aEnvT (touch ops o) (L.t i)) o = some k) (hl : locOK ops ms i k (L.news i) = true) (h' : AH) (hs : rStep P call (L.lin ms i) (aEnvT (touch ops o) (L.t i)) o (L.v i) h') (ht : aPut nt (L.t i) o.dst (L.v i) = some (L.t (i + 1))) (hh : L.h (i + 1) = { h' with hid := (L.h i).hid }) (hp : L.p (i + 1) = L.p i) (hn : L.w i = some k)
  | kil (hw : aWant ops (L.t i) o = some true) (hb : isBar ops ms i o = false) (hk : wOK ms i o (L.news i) = true) (k : Nat) (hkn : killName (L.lin ms i) (aEnvT (touch ops o) (L.t i)) o = some k) (hold : oldName k (L.news i) = true) (h' : AH) (hx : h'.next = (L.h i).next + 1) (hs : rStep P call (L.lin ms i) (aEnvT (touch ops o) (L.t i)) o (L.v i) h') (ht : aPut nt (L.t i) o.dst (L.v i) = some (L.t (i + 1))) (hh : L.h (i + 1) = { h' with hid := (L.h i).hid }) (hp : L.p (i + 1) = L.p i) (hn : L.w i = none)

theorem Log.news_succ {L : Log} {i : Nat} (hp : L.p (i + 1) = L.p i) (hle : L.p i ≤ i) : L.news (i + 1) = L.ne i :: L.news i := by
  unfold Log.news
  rw [hp, show i + 1 - L.p i = (i - L.p i) + 1 from by omega, List.range'_concat]
  simp only [List.reverse_append, List.reverse_cons, List.reverse_nil, List.nil_append, List.map_cons, List.cons_append]
  rw [show L.p i + 1 * (i - L.p i) = i from by omega]

section
variable {P : Program} {call : CallR} {nt : Nat} {ops : Array Oper} {ms : List Nat}

theorem aDraw_log : ∀ (r : List Oper) (i : Nat) (t : Tr Value) (h : AH) (news : List (Nat × Nat × Nat)) (t' : Tr Value) (h' : AH) (L0 : Log), rDraw P call nt ops ms i r t h news t' h' →
    L0.t i = t → L0.h i = h → L0.news i = news → L0.p i ≤ i →
    ∃ L : Log, (∀ j, j ≤ i → L.t j = L0.t j ∧ L.h j = L0.h j ∧ L.p j = L0.p j) ∧ (∀ j, j < i → L.v j = L0.v j ∧ L.w j = L0.w j) ∧ L.t (i + r.length) = t' ∧ L.h (i + r.length) = h' ∧ (∀ k o, r[k]? = some o → LogAt P call nt ops ms L (i + k) o) ∧ (∀ k, k ≤ r.length → L.p (i + k) ≤ i + k) := by
  intro r
  induction r with
  | nil =>
    intro i t h news t' h' L0 e ht hh hn hp
    obtain ⟨rfl, rfl⟩ := e
    exact ⟨L0, fun j _ => ⟨rfl, rfl, rfl⟩, fun _ _ => ⟨rfl, rfl⟩, ht, hh, fun k o hk => by simp at hk, fun k hk => by
      obtain rfl : k = 0 := by simpa using hk
      exact hp⟩
  | cons o r ih =>
    intro i t h news t' h' L0 e ht hh hn hp
    -- the log with one more row
    have main : ∀ (v : Value) (t1 : Tr Value) (h1 : AH) (p1 : Nat) (wi : Option Nat), p1 ≤ i + 1 →
        (∀ L : Log, L.t i = t → L.h i = h → L.p i = L0.p i → ((∀ j, j ≤ i → L.h j = L0.h j ∧ L.p j = L0.p j) ∧ ∀ j, j < i → L.w j = L0.w j) → L.v i = v → L.t (i + 1) = t1 → L.h (i + 1) = h1 → L.p (i + 1) = p1 → L.w i = wi → LogAt P call nt ops ms L i o) →
        (∀ L : Log, ((∀ j, j ≤ i → L.h j = L0.h j ∧ L.p j = L0.p j) ∧ ∀ j, j < i → L.w j = L0.w j) → L.h (i + 1) = h1 → L.p (i + 1) = p1 → L.w i = wi → ∃ nw, L.news (i + 1) = nw ∧ rDraw P call nt ops ms (i + 1) r t1 h1 nw t' h') →
        ∃ L : Log, (∀ j, j ≤ i → L.t j = L0.t j ∧ L.h j = L0.h j ∧ L.p j = L0.p j) ∧ (∀ j, j < i → L.v j = L0.v j ∧ L.w j = L0.w j) ∧ L.t (i + (o :: r).length) = t' ∧ L.h (i + (o :: r).length) = h' ∧ (∀ k o', (o :: r)[k]? = some o' → LogAt P call nt ops ms L (i + k) o') ∧ (∀ k, k ≤ (o :: r).length → L.p (i + k) ≤ i + k) := by
      intro v t1 h1 p1 wi hp1 hat hnew
      let L1 : Log := ⟨fun j => if j = i + 1 then t1 else L0.t j, fun j => if j = i + 1 then h1 else L0.h j, fun j => if j = i then v else L0.v j, fun j => if j = i + 1 then p1 else L0.p j, fun j => if j = i then wi else L0.w j⟩
      have l1 : ∀ j, j ≤ i → L1.t j = L0.t j ∧ L1.h j = L0.h j ∧ L1.p j = L0.p j := fun j hj => ⟨if_neg (by omega), if_neg (by omega), if_neg (by omega)⟩
      obtain ⟨nw, hnw, hd⟩ := hnew L1 ⟨fun j hj => (l1 j hj).2, fun j hj => if_neg (by omega)⟩ (if_pos rfl) (if_pos rfl) (if_pos rfl)
      obtain ⟨L, q1, q2, q3, q4, q5, q6⟩ := ih (i + 1) t1 h1 nw t' h' L1 hd (if_pos rfl) (if_pos rfl) hnw (by show (if _ then _ else _) ≤ _; rw [if_pos rfl]; exact hp1)
      have m1 : ∀ j, j ≤ i → L.t j = L0.t j ∧ L.h j = L0.h j ∧ L.p j = L0.p j := fun j hj => by
        obtain ⟨a, b, c⟩ := q1 j (by omega)
        obtain ⟨a', b', c'⟩ := l1 j hj
        exact ⟨a.trans a', b.trans b', c.trans c'⟩
      obtain ⟨n1, n2, n3⟩ := q1 (i + 1) (Nat.le_refl _)
      have e1 : L.t (i + 1) = t1 := n1.trans (if_pos rfl)
      have e2 : L.h (i + 1) = h1 := n2.trans (if_pos rfl)
      have e3 : L.p (i + 1) = p1 := n3.trans (if_pos rfl)
      have e4 : L.v i = v := (q2 i (by omega)).1.trans (if_pos rfl)
      have e5 : L.w i = wi := (q2 i (by omega)).2.trans (if_pos rfl)
      have m2 : ∀ j, j < i → L.v j = L0.v j ∧ L.w j = L0.w j := fun j hj => ⟨(q2 j (by omega)).1.trans (if_neg (by omega)), (q2 j (by omega)).2.trans (if_neg (by omega))⟩
      refine ⟨L, m1, m2, ?_, ?_, fun k o' hk => ?_, fun k hk => ?_⟩
      · rw [← q3]; congr 1; simp; omega
      · rw [← q4]; congr 1; simp; omega
      · cases k with
        | zero =>
          simp only [List.getElem?_cons_zero, Option.some.injEq] at hk
          subst hk
          obtain ⟨a, b, c⟩ := m1 i (Nat.le_refl _)
          exact hat L (a.trans ht) (b.trans hh) c ⟨fun j hj => (m1 j hj).2, fun j hj => (m2 j hj).2⟩ e4 e1 e2 e3 e5
        | succ k =>
          have := q5 k o' (by simpa using hk)
          rw [show i + (k + 1) = i + 1 + k from by omega]
          exact this
      · cases k with
        | zero => rw [Nat.add_zero, (m1 i (Nat.le_refl _)).2.2]; exact hp
        | succ k =>
          have := q6 k (by simpa using hk)
          rw [show i + (k + 1) = i + 1 + k from by omega]
          exact this
    have newsOf : ∀ L : Log, ((∀ j, j ≤ i → L.h j = L0.h j ∧ L.p j = L0.p j) ∧ ∀ j, j < i → L.w j = L0.w j) → L.news i = news := by
      intro L hl
      rw [← hn]
      unfold Log.news
      rw [(hl.1 i (Nat.le_refl _)).2]
      apply List.map_congr_left
      intro j hj
      have hj' := List.mem_range'_1.1 (List.mem_reverse.1 hj)
      unfold Log.ne
      rw [hl.2 j (by omega), (hl.1 j (by omega)).1, (hl.1 (j + 1) (by omega)).1]
    have nxt : ∀ L : Log, ((∀ j, j ≤ i → L.h j = L0.h j ∧ L.p j = L0.p j) ∧ ∀ j, j < i → L.w j = L0.w j) → L.p (i + 1) = L0.p i → L.news (i + 1) = L.ne i :: news := by
      intro L hl e3
      have hpi := (hl.1 i (Nat.le_refl _)).2
      rw [L.news_succ (by rw [e3, hpi]) (by rw [hpi]; exact hp), newsOf L hl]
    rcases e with ⟨hw, hb, v, h1, t1, hs, hpt, e⟩ | ⟨hw, hb, hwk, v, h1, t1, hs, hpt, e⟩ | ⟨hw, hb, hwk, k, v, h1, t1, hk, hl, hs, hpt, e⟩ | ⟨hw, t1, hpt, e⟩ | ⟨hw, hb, hwk, k, v, h1, t1, hk, hsame, hs, hpt, e⟩ | ⟨hw, hb, hwk, k, v, h1, t1, hk, hold, hx, hs, hpt, e⟩
    · refine main v t1 h1 (i + 1) none (Nat.le_refl _) (fun L a b c d e4 e1 e2 e3 e5 => ?_) (fun L hl e2 e3 e5 => ⟨[], ?_, e⟩)
      · exact .bar (by rw [a]; exact hw) (by rw [a]; exact hb) (by rw [a, b, e4, e2]; exact hs) (by rw [a, e4, e1]; exact hpt) e3 e5
      · unfold Log.news; rw [e3]; simp
    · refine main v t1 _ (L0.p i) none (by omega) (fun L a b c d e4 e1 e2 e3 e5 => ?_) (fun L hl e2 e3 e5 => ⟨_, ?_, e⟩)
      · have := newsOf L d
        refine .read (by rw [a]; exact hw) hb (by rw [this]; exact hwk) h1 ?_ (by rw [a, e4, e1]; exact hpt) (by rw [e2, b]) (by rw [e3, c]) e5
        unfold Log.hin
        rw [a, e4, this, b]
        exact hs
      · rw [nxt L hl e3]
        unfold Log.ne
        rw [e5, e2, (hl.1 i (Nat.le_refl _)).1, hh]
    · refine main v t1 _ (L0.p i) (some k) (by omega) (fun L a b c d e4 e1 e2 e3 e5 => ?_) (fun L hl e2 e3 e5 => ⟨_, ?_, e⟩)
      · have := newsOf L d
        refine .lst (by rw [a]; exact hw) hb (by rw [this]; exact hwk) k (by rw [a]; exact hk) (by rw [this]; exact hl) h1 ?_ (by rw [a, e4, e1]; exact hpt) (by rw [e2, b]) (by rw [e3, c]) e5
        unfold Log.lin
        rw [a, e4, this, b]
        exact hs
      · rw [nxt L hl e3]
        unfold Log.ne
        rw [e5]
    · refine main undef t1 h (L0.p i) none (by omega) (fun L a b c d e4 e1 e2 e3 e5 => ?_) (fun L hl e2 e3 e5 => ⟨_, ?_, e⟩)
      · exact .skip (by rw [a]; exact hw) e4 (by rw [a, e1]; exact hpt) (by rw [e2, b]) (by rw [e3, c]) e5
      · rw [nxt L hl e3]
        unfold Log.ne
        rw [e5, e2, (hl.1 i (Nat.le_refl _)).1, hh]
    · refine main v t1 h (L0.p i) none (by omega) (fun L a b c d e4 e1 e2 e3 e5 => ?_) (fun L hl e2 e3 e5 => ⟨_, ?_, e⟩)
      · have := newsOf L d
        have el : L.lin ms i = h.lview ms i news := by unfold Log.lin; rw [this, b]
        refine .sil (by rw [a]; exact hw) hb (by rw [this]; exact hwk) k (by rw [a]; exact hk) h1 (by rw [el]; exact hsame) ?_ (by rw [a, e4, e1]; exact hpt) (by rw [e2, b]) (by rw [e3, c]) e5
        rw [a, e4, el]
        exact hs
      · rw [nxt L hl e3]
        unfold Log.ne
        rw [e5, e2, (hl.1 i (Nat.le_refl _)).1, hh]
    · refine main v t1 _ (L0.p i) none (by omega) (fun L a b c d e4 e1 e2 e3 e5 => ?_) (fun L hl e2 e3 e5 => ⟨_, ?_, e⟩)
      · have := newsOf L d
        have el : L.lin ms i = h.lview ms i news := by unfold Log.lin; rw [this, b]
        refine .kil (by rw [a]; exact hw) hb (by rw [this]; exact hwk) k (by rw [el, a]; exact hk) (by rw [this]; exact hold) h1 (by rw [b]; exact hx) ?_ (by rw [a, e4, e1]; exact hpt) (by rw [e2, b]) (by rw [e3, c]) e5
        rw [a, e4, el]
        exact hs
      · rw [nxt L hl e3]
        unfold Log.ne
        rw [e5, e2, (hl.1 i (Nat.le_refl _)).1, hh]
end
end Go.Vm

/- VmK0: A machine for closed runs: what a store does to a world, told of one name. -/
namespace Go.Vm
open Go Go.RowKit

section
variable {P : Program} {C : CallR} {g h' : AH} {ρ : Env} {o : Oper} {v : Value} {k : Nat}

theorem ent_store {φ : Nat → Nat × Nat} {κ : Nat → Nat} {N : Nat → Prop} {w : World} {k o : Nat} {b : Blk} {vs : List Value} (E : entOK φ κ N w k (.cells b)) (hr : κ k ≠ 0) (hz : b.esz ≠ 0) (hl : o + vs.length ≤ b.cells.length) (hf : vs.all Value.oneCell' = true) (hv : ∀ v ∈ vs, okV N κ v) :
    ∃ ob, (storeCells ⟨(φ k).1, (φ k).2 + o, none⟩ (vs.map (ren φ κ)) 0).run P w = .ok () { w with heap := w.heap.setIfInBounds (φ k).1 ob } ∧ entOK φ κ N { w with heap := w.heap.setIfInBounds (φ k).1 ob } k (.cells { b with cells := writeAt b.cells o vs }) := by
  obtain ⟨c, el, fz, h1, h1z, h0, h2, h3, h4⟩ := E.2 hr
  obtain rfl := h1z hz
  have hf' : ∀ v ∈ vs.map (ren φ κ), v.oneCell' = true := by
    intro v hv
    obtain ⟨u, hu, rfl⟩ := List.mem_map.1 hv
    have := List.all_eq_true.1 hf u hu
    rw [one_ren]
    exact this
  have hrun := run_storeCells_at P (φ k).1 ((φ k).2 + o) el (vs.map (ren φ κ)) 0 c w h1 (by simp; omega) hf'
  rw [setRow_set h1] at hrun
  refine ⟨_, hrun, ?_⟩
  have hlt := E.lt hr
  refine ⟨fun e => absurd e hr, fun _ => ⟨_, el, _, Array.getElem?_setIfInBounds_self_of_lt hlt, fun _ => rfl, ?_, fun j v hj => ?_, fun v hv' => ?_, ?_⟩⟩
  · have : (writeAt b.cells o vs).length = b.cells.length := by unfold writeAt; simp; omega
    simp only [List.size_toArray, List.length_append, List.length_take, List.length_drop, List.length_map, Array.length_toList, this]
    omega
  · simp only [List.getElem?_toArray]
    have e := writeAt_get (l := c.toList) (vs := vs.map (ren φ κ)) (o := (φ k).2 + o) (by simp; omega) ((φ k).2 + j)
    unfold writeAt at e
    simp only [Nat.add_zero]
    rw [e]
    rw [writeAt_get hl] at hj
    by_cases hc : o ≤ j ∧ j < o + vs.length
    · rw [if_pos hc] at hj
      rw [if_pos (by simp; omega), List.getElem?_map, show (φ k).2 + j - ((φ k).2 + o) = j - o from by omega, hj]
      rfl
    · rw [if_neg hc] at hj
      rw [if_neg (by simp; omega)]
      simpa using h2 j v hj
  · unfold writeAt at hv'
    rw [List.mem_append, List.mem_append] at hv'
    rcases hv' with (hv' | hv') | hv'
    · exact h3 v (List.mem_of_mem_take hv')
    · exact hv v hv'
    · exact h3 v (List.mem_of_mem_drop hv')
  · intro ho
    have := h4 ho
    simp only [List.size_toArray, List.length_append, List.length_take, List.length_drop, List.length_map, Array.length_toList]
    omega

theorem rStep_lst (hs : stName ρ o = some k) (e : rStep P C g ρ o v h') : v = undef ∧ g.wlim ≤ k ∧ isPure o.op = false ∧ ∃ b b', g.get k = some (.cells b) ∧ h' = g.put k (some (.cells b')) ∧
    ∀ (φ : Nat → Nat × Nat) (κ : Nat → Nat) (N : Nat → Prop) (w : World) (a : Act) (rd : Option Nat) (next : Act → World → Prop) (Q : Exit → Act → World → Prop), ERel φ κ N ρ a.eval → entOK φ κ N w k (.cells b) →
      (∀ ob, entOK φ κ N { w with heap := w.heap.setIfInBounds (φ k).1 ob } k (.cells b') → κ k ≠ 0 → next (a.put o.dst undef) { w with heap := w.heap.setIfInBounds (φ k).1 ob }) → o.wpIn (fen rd) 0 P a w next Q := by
  unfold stName at hs
  split at hs
  · rename_i t x y hop
    split at hs
    · rename_i ad hx
      injection hs with hs
      unfold rStep at e
      rw [hop] at e
      simp only [aOp, hx] at e
      split at e
      · rename_i u x' hu hy
        split at e
        · rename_i h2 hst
          simp only [Option.some.injEq, Prod.mk.injEq] at e
          obtain ⟨rfl, rfl⟩ := e
          injection hu with hu
          subst hu
          unfold aStore at hst
          split at hst
          · rename_i k' off hadd
            injection hadd with hadd
            injection hadd with hadd
            subst hadd
            simp only at hs
            subst hs
            split at hst
            · rename_i b i hg hi
              split at hst
              · rename_i hc
                obtain ⟨h1, h2, h3, h4, h5⟩ := hc
                injection hst with hst
                subst hst
                refine ⟨rfl, h3, (by rw [hop]; rfl), b, _, hg, rfl, fun φ κ N w a rd next Q E en hn => ?_⟩
                have oa := (E _ _ hx).2
                simp only [okV] at oa
                obtain ⟨ob, hr, hen⟩ := ent_store (P := P) (o := off) (vs := x'.cells.toList) en oa.2 h5 (by simpa [h1] using h2) h4 (ok_cells (E _ _ hy).2)
                have hrun : (Instr.storeAt t (a.eval x) (a.eval y)).run P w = .ok () { w with heap := w.heap.setIfInBounds (φ k').1 ob } := by
                  rw [(E _ _ hx).1, (E _ _ hy).1]
                  unfold Instr.storeAt storeVar
                  simp only [ren, Instr.sureAddr, Sem.run_bind, Sem.run_pure, Result.andThen_ok, run_sizeOf' hi]
                  rw [if_neg (by rw [ren_cells]; simp [h1])]
                  rw [ren_cells, Array.toList_map]
                  exact hr
                have hnd : ∀ c, o.op ≠ .defer c := by
                  intro c hc
                  rw [hop] at hc
                  cases hc
                refine ⟨fun f _ => fen_fn rd f, ?_⟩
                rw [Oper.semAt_eq _ _ _ hnd]
                have hl : Leaves ((execOp a.eval o).run P w) undef { w with heap := w.heap.setIfInBounds (φ k').1 ob } := by
                  have := leaves_skip (run_u hrun)
                  unfold execOp
                  rw [hop]
                  exact this
                exact upon_leaves hl (hn ob hen oa.2)
              · cases hst
            · cases hst
          · cases hst
        · cases e
      · cases e
    · cases hs
  · cases hs
theorem ent_silent {φ : Nat → Nat × Nat} {κ : Nat → Nat} {N : Nat → Prop} {w : World} {k o : Nat} {b : Blk} {vs : List Value} (E : entOK φ κ N w k (.cells b)) (hr : κ k ≠ 0) (hz : b.esz ≠ 0) (hl : o + vs.length ≤ b.cells.length) (hf : vs.all Value.oneCell' = true) (hsame : writeAt b.cells o vs = b.cells) :
    (storeCells ⟨(φ k).1, (φ k).2 + o, none⟩ (vs.map (ren φ κ)) 0).run P w = .ok () w := by
  obtain ⟨c, el, fz, h1, h1z, h0, h2, h3, h4⟩ := E.2 hr
  obtain rfl := h1z hz
  have hf' : ∀ v ∈ vs.map (ren φ κ), v.oneCell' = true := by
    intro v hv
    obtain ⟨u, hu, rfl⟩ := List.mem_map.1 hv
    have := List.all_eq_true.1 hf u hu
    rw [one_ren]
    exact this
  have hrun := run_storeCells_at P (φ k).1 ((φ k).2 + o) el (vs.map (ren φ κ)) 0 c w h1 (by simp; omega) hf'
  rw [setRow_set h1] at hrun
  rw [hrun]
  congr 1
  have hc : (c.toList.take ((φ k).2 + o + 0) ++ vs.map (ren φ κ) ++ c.toList.drop ((φ k).2 + o + 0 + (vs.map (ren φ κ)).length)).toArray = c := by
    apply Array.ext'
    simp only [Nat.add_zero, List.toList_toArray]
    apply List.ext_getElem?
    intro j
    have e := writeAt_get (l := c.toList) (vs := vs.map (ren φ κ)) (o := (φ k).2 + o) (by simp; omega) j
    unfold writeAt at e
    rw [e]
    split
    · rename_i hj
      have hv : (writeAt b.cells o vs)[j - (φ k).2]? = b.cells[j - (φ k).2]? := by rw [hsame]
      simp only [List.length_map] at hj
      rw [writeAt_get hl, if_pos (by omega)] at hv
      have hlt : j - (φ k).2 - o < vs.length := by omega
      rw [List.getElem?_eq_getElem hlt] at hv
      have := h2 _ _ hv.symm
      rw [show (φ k).2 + (j - (φ k).2) = j by omega] at this
      rw [List.getElem?_map, show j - ((φ k).2 + o) = j - (φ k).2 - o by omega, List.getElem?_eq_getElem hlt]
      simpa using this.symm
    · rfl
  rw [hc]
  have : w.heap.setIfInBounds (φ k).1 (.cells c el (0, 0)) = w.heap := by
    apply Array.ext_getElem?
    intro j
    by_cases e : j = (φ k).1
    · subst e
      rw [Array.getElem?_setIfInBounds_self_of_lt (E.lt hr), h1]
    · rw [Array.getElem?_setIfInBounds_ne (fun x => e x.symm)]
  rw [this]

theorem rStep_sil (hs : stName ρ o = some k) (e : rStep P C g ρ o v h') (hsame : sameAt h' g k = true) : v = undef ∧ isPure o.op = false ∧ ∃ b, g.get k = some (.cells b) ∧
    ∀ (φ : Nat → Nat × Nat) (κ : Nat → Nat) (N : Nat → Prop) (w : World) (a : Act) (rd : Option Nat) (next : Act → World → Prop) (Q : Exit → Act → World → Prop), ERel φ κ N ρ a.eval → entOK φ κ N w k (.cells b) →
      next (a.put o.dst undef) w → o.wpIn (fen rd) 0 P a w next Q := by
  unfold stName at hs
  split at hs
  · rename_i t x y hop
    split at hs
    · rename_i ad hx
      injection hs with hs
      unfold rStep at e
      rw [hop] at e
      simp only [aOp, hx] at e
      split at e
      · rename_i u x' hu hy
        split at e
        · rename_i h2 hst
          simp only [Option.some.injEq, Prod.mk.injEq] at e
          obtain ⟨rfl, rfl⟩ := e
          injection hu with hu
          subst hu
          unfold aStore at hst
          split at hst
          · rename_i k' off hadd
            injection hadd with hadd
            injection hadd with hadd
            subst hadd
            simp only at hs
            subst hs
            split at hst
            · rename_i b i hg hi
              split at hst
              · rename_i hc
                obtain ⟨h1, h2, h3, h4, h5⟩ := hc
                injection hst with hst
                subst hst
                have hsw : writeAt b.cells off x'.cells.toList = b.cells := by
                  unfold sameAt at hsame
                  rw [put_get (get_sees hg), if_pos rfl, hg] at hsame
                  exact sameL_eq hsame
                refine ⟨rfl, (by rw [hop]; rfl), b, hg, fun φ κ N w a rd next Q E en hn => ?_⟩
                have oa := (E _ _ hx).2
                simp only [okV] at oa
                have hr := ent_silent (P := P) (o := off) (vs := x'.cells.toList) en oa.2 h5 (by simpa [h1] using h2) h4 hsw
                have hrun : (Instr.storeAt t (a.eval x) (a.eval y)).run P w = .ok () w := by
                  rw [(E _ _ hx).1, (E _ _ hy).1]
                  unfold Instr.storeAt storeVar
                  simp only [ren, Instr.sureAddr, Sem.run_bind, Sem.run_pure, Result.andThen_ok, run_sizeOf' hi]
                  rw [if_neg (by rw [ren_cells]; simp [h1])]
                  rw [ren_cells, Array.toList_map]
                  exact hr
                have hnd : ∀ c, o.op ≠ .defer c := by
                  intro c hc
                  rw [hop] at hc
                  cases hc
                refine ⟨fun f _ => fen_fn rd f, ?_⟩
                rw [Oper.semAt_eq _ _ _ hnd]
                have hl : Leaves ((execOp a.eval o).run P w) undef w := by
                  have := leaves_skip (run_u hrun)
                  unfold execOp
                  rw [hop]
                  exact this
                exact upon_leaves hl hn
              · cases hst
            · cases hst
          · cases hst
        · cases e
      · cases e
    · cases hs
  · cases hs
end
end Go.Vm

/- VmL: A machine for closed runs, twelfth part: whoever stands before whom. -/
namespace Go.Vm
open Go Go.RowKit

theorem fold_mask (ms : List Nat) (j : Nat) : ∀ (l : List Edge) (s : Nat), (l.foldl (fun s e => if Region.binds .any e then s ||| 2 ^ e.on ||| ms.getD e.on 0 else s) s).testBit j = true ↔ s.testBit j = true ∨ ∃ e ∈ l, Region.binds .any e = true ∧ (e.on = j ∨ (ms.getD e.on 0).testBit j = true) := by
  intro l
  induction l with
  | nil => intro s; simp
  | cons e r ih =>
    intro s
    simp only [List.foldl_cons]
    rw [ih]
    by_cases hb : Region.binds .any e = true
    · rw [if_pos hb, Nat.testBit_or, Nat.testBit_or, Nat.testBit_two_pow]
      simp only [Bool.or_eq_true, decide_eq_true_eq, List.mem_cons]
      constructor
      · rintro (((h | h) | h) | ⟨e', h1, h2⟩)
        · exact .inl h
        · exact .inr ⟨e, .inl rfl, hb, .inl h⟩
        · exact .inr ⟨e, .inl rfl, hb, .inr h⟩
        · exact .inr ⟨e', .inr h1, h2⟩
      · rintro (h | ⟨e', h1 | h1, h2, h3 | h3⟩)
        · exact .inl (.inl (.inl h))
        · subst h1; exact .inl (.inl (.inr h3))
        · subst h1; exact .inl (.inr h3)
        · exact .inr ⟨e', h1, h2, .inl h3⟩
        · exact .inr ⟨e', h1, h2, .inr h3⟩
    · rw [if_neg hb]
      simp only [List.mem_cons]
      constructor
      · rintro (h | ⟨e', h1, h2⟩)
        · exact .inl h
        · exact .inr ⟨e', .inr h1, h2⟩
      · rintro (h | ⟨e', h1 | h1, h2, h3⟩)
        · exact .inl h
        · subst h1; exact absurd h2 hb
        · exact .inr ⟨e', h1, h2, h3⟩

theorem masks_length : ∀ (l : List Oper) (acc : List Nat), (masks acc l).length = acc.length + l.length := by
  intro l
  induction l with
  | nil => intro acc; simp [masks]
  | cons o r ih => intro acc; simp only [masks]; rw [ih]; simp; omega
theorem masks_old : ∀ (l : List Oper) (acc : List Nat) (i : Nat), i < acc.length → (masks acc l).getD i 0 = acc.getD i 0 := by
  intro l
  induction l with
  | nil => intro acc i _; rfl
  | cons o r ih =>
    intro acc i hi
    simp only [masks]
    rw [ih _ _ (by simp; omega)]
    simp [List.getElem?_append_left hi]
theorem masks_at : ∀ (l : List Oper) (acc : List Nat) (k : Nat) (o : Oper), l[k]? = some o → ∃ pre : List Nat, (masks acc l).getD (acc.length + k) 0 = maskOf pre o ∧ pre.length = acc.length + k ∧ ∀ m, m < pre.length → pre.getD m 0 = (masks acc l).getD m 0 := by
  intro l
  induction l with
  | nil => intro acc k o h; simp at h
  | cons o' r ih =>
    intro acc k o h
    simp only [masks]
    cases k with
    | zero =>
      simp only [List.getElem?_cons_zero, Option.some.injEq] at h
      subst h
      refine ⟨acc, ?_, rfl, fun m hm => ?_⟩
      · rw [Nat.add_zero, masks_old _ _ _ (by simp)]
        simp
      · rw [masks_old _ _ _ (by simp; omega)]
        simp [List.getElem?_append_left hm]
    | succ k =>
      obtain ⟨pre, h1, h2, h3⟩ := ih (acc ++ [maskOf acc o']) k o (by simpa using h)
      refine ⟨pre, ?_, by rw [h2]; simp; omega, h3⟩
      rw [← h1]
      congr 1
      simp
      omega

section
variable {ops : Array Oper}

theorem slots_edges {ms : List Nat} (hs : slotsOk ops ms = true) {i : Nat} {o : Oper} (ho : ops[i]? = some o) {e : Edge} (he : e ∈ o.after) (hb : Region.binds .any e = true) : e.on < i := by
  unfold slotsOk at hs
  rw [List.all_eq_true] at hs
  have := hs (o, i) (List.mem_zipIdx_iff_getElem?.2 (by simpa using ho))
  simp only [Bool.and_eq_true] at this
  have h1 := List.all_eq_true.1 this.1 e (by simpa using he)
  rw [hb] at h1
  simpa using h1
theorem slots_ordered {ms : List Nat} (hs : slotsOk ops ms = true) {i j : Nat} {o oj : Oper} (ho : ops[i]? = some o) (hj : ops[j]? = some oj) (hne : j ≠ i) {d : Nat} (hd : oj.dst = some d) (ht : d ∈ touch ops o) : ordered ms j i = true := by
  unfold slotsOk at hs
  rw [List.all_eq_true] at hs
  have := hs (o, i) (List.mem_zipIdx_iff_getElem?.2 (by simpa using ho))
  simp only [Bool.and_eq_true] at this
  have h1 := List.all_eq_true.1 this.2 (oj, j) (List.mem_zipIdx_iff_getElem?.2 (by simpa using hj))
  simp only [hd, Bool.or_eq_true, decide_eq_true_eq, Bool.not_eq_true', hne, false_or] at h1
  rcases h1 with h1 | h1
  · rw [List.contains_iff_mem.2 ht] at h1
    cases h1
  · exact h1

theorem before_iff (hs : slotsOk ops (masks [] ops.toList) = true) {i j : Nat} : before (masks [] ops.toList) j i = true ↔ ∃ o, ops[i]? = some o ∧ ∃ e ∈ o.after, Region.binds .any e = true ∧ (e.on = j ∨ before (masks [] ops.toList) j e.on = true) := by
  unfold before
  by_cases hi : i < ops.size
  · have ho : ops[i]? = some ops[i] := Array.getElem?_eq_getElem hi
    obtain ⟨pre, h1, h2, h3⟩ := masks_at ops.toList [] i ops[i] (by simp)
    simp only [List.length_nil, Nat.zero_add] at h1 h2
    rw [h1]
    unfold maskOf
    rw [fold_mask]
    simp only [Nat.zero_testBit, Bool.false_eq_true, false_or, Array.mem_toList_iff]
    constructor
    · rintro ⟨e, he, hb, hc⟩
      refine ⟨_, ho, e, he, hb, hc.imp id fun hc => ?_⟩
      rw [← h3 e.on (by rw [h2]; exact slots_edges hs ho he hb)]
      exact hc
    · rintro ⟨o, ho', e, he, hb, hc⟩
      obtain rfl : ops[i] = o := Option.some.inj (ho.symm.trans ho')
      refine ⟨e, he, hb, hc.imp id fun hc => ?_⟩
      rw [h3 e.on (by rw [h2]; exact slots_edges hs ho he hb)]
      exact hc
  · have h0 : (masks [] ops.toList).getD i 0 = 0 := by
      rw [List.getD_eq_getElem?_getD, List.getElem?_eq_none (by rw [masks_length]; simp; omega)]
      rfl
    rw [h0, Array.getElem?_eq_none (by omega)]
    simp

theorem before_lt (hs : slotsOk ops (masks [] ops.toList) = true) : ∀ (i j : Nat), before (masks [] ops.toList) j i = true → j < i := by
  intro i
  induction i using Nat.strongRecOn with
  | _ i ih =>
    intro j hb
    obtain ⟨o, ho, e, he, hbi, h⟩ := (before_iff hs).1 hb
    have hlt := slots_edges hs ho he hbi
    rcases h with h | h
    · omega
    · have := ih e.on hlt j h; omega

theorem before_trans (hs : slotsOk ops (masks [] ops.toList) = true) : ∀ (i j m : Nat), before (masks [] ops.toList) j i = true → before (masks [] ops.toList) m j = true → before (masks [] ops.toList) m i = true := by
  intro i
  induction i using Nat.strongRecOn with
  | _ i ih =>
    intro j m hb hm
    obtain ⟨o, ho, e, he, hbi, h⟩ := (before_iff hs).1 hb
    have hlt := slots_edges hs ho he hbi
    refine (before_iff hs).2 ⟨o, ho, e, he, hbi, .inr ?_⟩
    rcases h with h | h
    · rw [h]; exact hm
    · exact ih e.on hlt j m h hm

/- what is done is closed: whoever is done, all before it are done -/
def Closed (ops : Array Oper) (D : Nat → Bool) : Prop := ∀ i o, ops[i]? = some o → D i = true → ∀ e ∈ o.after, Region.binds .any e = true → D e.on = true

theorem Closed.before (hs : slotsOk ops (masks [] ops.toList) = true) {D : Nat → Bool} (hc : Closed ops D) : ∀ (i j : Nat), D i = true → Vm.before (masks [] ops.toList) j i = true → D j = true := by
  intro i
  induction i using Nat.strongRecOn with
  | _ i ih =>
    intro j hi hb
    obtain ⟨o, ho, e, he, hbi, h⟩ := (before_iff hs).1 hb
    have hd := hc i o ho hi e he hbi
    rcases h with h | h
    · rw [← h]; exact hd
    · exact ih e.on (slots_edges hs ho he hbi) j hd h

theorem bar_ordered {ms : List Nat} {i j : Nat} {o oj : Oper} (hb : isBar ops ms i o = true) (hj : ops[j]? = some oj) (hne : j ≠ i) (hp : isPure oj.op = false) : ordered ms j i = true := by
  unfold isBar at hb
  simp only [Bool.and_eq_true] at hb
  have := List.all_eq_true.1 hb.2 (oj, j) (List.mem_zipIdx_iff_getElem?.2 (by simpa using hj))
  simpa [hne, hp] using this
end
end Go.Vm

/- VmM: A machine for closed runs, thirteenth part: a region in whatever order. -/
namespace Go.Vm
open Go Go.RowKit

/- a pure operation looks at no memory -/
theorem aOp_pure {P : Program} {h h' : AH} {ρ : Env} {o : Op} {v : Value} (hp : isPure o = true) (e : aOp P h ρ o = some (v, h')) : h' = h ∧ ∀ g, aOp P g ρ o = some (v, g) := by
  unfold isPure at hp
  split at hp <;> first
    | (cases hp; done)
    | (simp only [aOp] at e ⊢
       repeat' split at e
       all_goals first
         | (cases e; done)
         | (simp only [Option.some.injEq, Prod.mk.injEq] at e
            obtain ⟨rfl, rfl⟩ := e
            refine ⟨rfl, fun g => ?_⟩
            simp [*]))
theorem aBuiltin_pure {P : Program} {h h' : AH} {b : Builtin} {ts : Array TypeId} {ty : TypeId} {args : List Value} {v : Value} (hb : b = .min ∨ b = .max) (e : aBuiltin P h b ts ty args = some (v, h')) : h' = h ∧ ∀ g, aBuiltin P g b ts ty args = some (v, g) := by
  rcases hb with rfl | rfl
  all_goals
    simp only [aBuiltin] at e ⊢
    repeat' split at e
    all_goals first
      | (cases e; done)
      | (simp only [Option.some.injEq, Prod.mk.injEq] at e
         obtain ⟨rfl, rfl⟩ := e
         refine ⟨rfl, fun g => ?_⟩
         simp [*])
theorem rStep_pure {P : Program} {call : CallR} {h h' : AH} {ρ : Env} {o : Oper} {v : Value} (hp : isPure o.op = true) (e : rStep P call h ρ o v h') : h' = h ∧ ∀ g, rStep P call g ρ o v g := by
  unfold rStep at e ⊢
  split at e
  · rename_i c hc
    rw [hc] at hp
    have hb : ∃ b, c.callee = .builtin b ∧ (b = .min ∨ b = .max) := by
      simp only [isPure] at hp
      split at hp
      · rename_i q; exact ⟨_, q, .inl rfl⟩
      · rename_i q; exact ⟨_, q, .inr rfl⟩
      · cases hp
    obtain ⟨b, hb, hmm⟩ := hb
    rw [hb] at e
    simp only [hc, hb]
    split at e
    · exact aBuiltin_pure hmm e
    · exact e.elim
  · obtain ⟨h1, h2⟩ := aOp_pure hp e
    refine ⟨h1, fun g => ?_⟩
    exact h2 g

section
variable {P : Program} {call : CallR} {nt : Nat} {ops : Array Oper} {L : Log} {W : Nat} {H0 : List (Nat × Nat)}

/- a log of the whole region -/
structure Logged (P : Program) (call : CallR) (nt : Nat) (ops : Array Oper) (L : Log) (W : Nat) (H0 : List (Nat × Nat)) : Prop where
  ok : CallOk P call
  names : namesOk P = true
  slots : slotsOk ops (masks [] ops.toList) = true
  at_ : ∀ j o, ops[j]? = some o → LogAt P call nt ops (masks [] ops.toList) L j o
  p0 : L.p 0 = 0
  wl0 : (L.h 0).wlim = W
  hid0 : (L.h 0).hid = H0
  le0 : W ≤ (L.h 0).next

abbrev lo (L : Log) (j : Nat) : Nat := (L.h j).next

theorem Logged.one (G : Logged P call nt ops L W H0) {j : Nat} (hj : j < ops.size) : ((L.h j).wlim = W → (L.h j).hid = H0 → W ≤ lo L j → lo L j ≤ lo L (j + 1) ∧ (L.h (j + 1)).wlim = W ∧ (L.h (j + 1)).hid = H0) := by
  intro h1 h2 h3
  have hat := G.at_ j _ (Array.getElem?_eq_getElem hj)
  cases hat with
  | skip hw hv ht hh hp => unfold lo; rw [hh]; exact ⟨Nat.le_refl _, h1, h2⟩
  | bar hw hb hs ht hp =>
    have g := rStep_grow G.ok (h1 ▸ h3) hs
    exact ⟨g.next, g.wlim.trans h1, g.hid.trans h2⟩
  | read hw hb hk h' hs ht hh hp =>
    have g := rStep_grow G.ok (h := L.hin _ j) (Nat.le_refl _) hs
    unfold lo
    rw [hh]
    exact ⟨g.next, h1, h2⟩
  | lst hw hb hk k hsn hl h' hs ht hh hp =>
    have g := rStep_grow G.ok (h := L.lin _ j) (h1 ▸ h3) hs
    unfold lo
    rw [hh]
    exact ⟨g.next, g.wlim.trans h1, h2⟩
  | sil hw hb hk k hsn h' hsame hs ht hh hp => unfold lo; rw [hh]; exact ⟨Nat.le_refl _, h1, h2⟩
  | kil hw hb hk k hkn hold h' hx hs ht hh hp hn =>
    have g := rStep_grow G.ok (h := L.lin _ j) (h1 ▸ h3) hs
    unfold lo
    rw [hh]
    exact ⟨g.next, g.wlim.trans h1, h2⟩

theorem Logged.const (G : Logged P call nt ops L W H0) : ∀ (j : Nat), j ≤ ops.size → (L.h j).wlim = W ∧ (L.h j).hid = H0 ∧ lo L 0 ≤ lo L j := by
  intro j
  induction j with
  | zero => intro _; exact ⟨G.wl0, G.hid0, Nat.le_refl _⟩
  | succ j ih =>
    intro hj
    obtain ⟨a, b, c⟩ := ih (by omega)
    obtain ⟨d, e, f⟩ := G.one (by omega) a b (Nat.le_trans G.le0 c)
    exact ⟨e, f, Nat.le_trans c d⟩
theorem Logged.mono (G : Logged P call nt ops L W H0) {i j : Nat} (hij : i ≤ j) (hj : j ≤ ops.size) : lo L i ≤ lo L j := by
  induction j with
  | zero => obtain rfl : i = 0 := by omega
            exact Nat.le_refl _
  | succ j ih =>
    by_cases e : i = j + 1
    · subst e; exact Nat.le_refl _
    · obtain ⟨a, b, c⟩ := G.const j (by omega)
      exact Nat.le_trans (ih (by omega) (by omega)) (G.one (by omega) a b (Nat.le_trans G.le0 c)).1

/- an operation that parts the region -/
def effBar (ops : Array Oper) (L : Log) (j : Nat) : Prop := ∃ o, ops[j]? = some o ∧ aWant ops (L.t j) o = some true ∧ L.p (j + 1) = j + 1 ∧ (isBar ops (masks [] ops.toList) j o = true ∨ softAt ops (masks [] ops.toList) j o (L.t j) = true)
theorem bar_np {ms : List Nat} {i : Nat} {o : Oper} {t : Tr Value} (h : isBar ops ms i o = true ∨ softAt ops ms i o t = true) : isPure o.op = false := by
  rcases h with h | h
  · unfold isBar at h
    simp only [Bool.and_eq_true, Bool.not_eq_true'] at h
    exact h.1
  · unfold softAt isSoft isSto at h
    simp only [Bool.and_eq_true] at h
    have h1 := h.1.1.1.1
    split at h1
    · rename_i he
      rw [he]
      rfl
    · cases h1
theorem app_np {o : Op} (h : isApp o = true) : isPure o = false ∧ isLd o = false := by
  unfold isApp at h
  split at h
  · split at h
    · rename_i hc
      exact ⟨by simp only [isPure, hc], rfl⟩
    · cases h
  · cases h

/- what a store into a block of the same piece leaves -/
theorem LogAt.lst_is {ms : List Nat} {i : Nat} {o : Oper} {k : Nat} (h : LogAt P call nt ops ms L i o) (hw : L.w i = some k) :
    aWant ops (L.t i) o = some true ∧ isBar ops ms i o = false ∧ wOK ms i o (L.news i) = true ∧ stName (aEnvT (touch ops o) (L.t i)) o = some k ∧ locOK ops ms i k (L.news i) = true ∧ L.p (i + 1) = L.p i ∧ L.v i = undef ∧ isPure o.op = false ∧ lo L (i + 1) = lo L i ∧
    ∃ b b', (L.lin ms i).get k = some (.cells b) ∧ L.h (i + 1) = (L.h i).put k (some (.cells b')) ∧
      ∀ (φ : Nat → Nat × Nat) (κ : Nat → Nat) (N : Nat → Prop) (w : World) (a : Act) (rd : Option Nat) (next : Act → World → Prop) (Q : Exit → Act → World → Prop), ERel φ κ N (aEnvT (touch ops o) (L.t i)) a.eval → entOK φ κ N w k (.cells b) →
        (∀ ob, entOK φ κ N { w with heap := w.heap.setIfInBounds (φ k).1 ob } k (.cells b') → κ k ≠ 0 → next (a.put o.dst undef) { w with heap := w.heap.setIfInBounds (φ k).1 ob }) → o.wpIn (fen rd) 0 P a w next Q := by
  cases h with
  | skip hw' hv ht hh hp hn => rw [hw] at hn; cases hn
  | bar hw' hb hs ht hp hn => rw [hw] at hn; cases hn
  | read hw' hb hk h' hs ht hh hp hn => rw [hw] at hn; cases hn
  | sil hw' hb hk k hsn h' hsame hs ht hh hp hn => rw [hw] at hn; cases hn
  | kil hw' hb hk k hkn hold h' hx hs ht hh hp hn => rw [hw] at hn; cases hn
  | lst hw' hb hk k' hsn hl h' hs ht hh hp hn =>
    obtain rfl : k = k' := Option.some.inj (hw.symm.trans hn)
    obtain ⟨r1, r2, r3, b, b', r4, r5, r6⟩ := rStep_lst hsn hs
    have e : L.h (i + 1) = (L.h i).put k (some (.cells b')) := by
      rw [hh, r5]
      rfl
    refine ⟨hw', hb, hk, hsn, hl, hp, r1, r3, ?_, b, b', r4, e, r6⟩
    unfold lo
    rw [e]
    rfl
theorem LogAt.w_none {ms : List Nat} {i : Nat} {o : Oper} (h : LogAt P call nt ops ms L i o) (hb : isBar ops ms i o = true) (hw : aWant ops (L.t i) o = some true) : L.w i = none := by
  cases h with
  | skip hw' hv ht hh hp hn => exact hn
  | bar hw' hb hs ht hp hn => exact hn
  | read hw' hb hk h' hs ht hh hp hn => exact hn
  | sil hw' hb hk k hsn h' hsame hs ht hh hp hn => exact hn
  | lst hw' hb' hk k' hsn hl h' hs ht hh hp hn => rw [hb] at hb'; cases hb'

  | kil hw' hb' hk k hkn hold h' hx hs ht hh hp hn => exact hn

/- an old row dies in an append -/
def Kill (L : Log) (j k : Nat) : Prop := k < lo L j ∧ (L.h j).tr.get k ≠ none ∧ (L.h (j + 1)).tr.get k = none
theorem Logged.noBar (G : Logged P call nt ops L W H0) {j : Nat} (hj : j < ops.size) (hn : ¬ effBar ops L j) : L.p (j + 1) = L.p j ∧ ∀ k, k < lo L j → L.w j ≠ some k → ¬ Kill L j k → (L.h (j + 1)).tr.get k = (L.h j).tr.get k := by
  have ho := Array.getElem?_eq_getElem hj
  have hat := G.at_ j _ ho
  cases hw0 : L.w j with
  | some k0 =>
    obtain ⟨_, _, _, _, _, hp, _, _, _, b, b', _, e, _⟩ := hat.lst_is hw0
    refine ⟨hp, fun k _ hne _ => ?_⟩
    rw [e, put_tr, Tr.get_put, if_neg (fun e => hne (by rw [e]))]
  | none =>
    cases hat with
    | skip hw hv ht hh hp => rw [hh]; exact ⟨hp, fun _ _ _ _ => rfl⟩
    | sil hw hb hk k hsn h' hsame hs ht hh hp => rw [hh]; exact ⟨hp, fun _ _ _ _ => rfl⟩
    | bar hw hb hs ht hp => exact absurd ⟨_, ho, hw, hp, hb⟩ hn
    | read hw hb hk h' hs ht hh hp =>
      have g := rStep_grow G.ok (h := L.hin _ j) (Nat.le_refl _) hs
      refine ⟨hp, fun k hk _ _ => ?_⟩
      rw [hh]
      exact g.keep k hk
    | lst hw hb hk k' hsn hl h' hs ht hh hp hn => rw [hw0] at hn; cases hn
    | kil hw hb hk k hkn hold h' hx hs ht hh hp hn =>
      obtain ⟨_, _, b, nb, _, hh', _⟩ := kil_is hkn hx hs
      refine ⟨hp, fun x hxl _ hK => ?_⟩
      have hx1 : (L.h (j + 1)).tr.get x = if x = k then none else if x = lo L j then some (.cells nb) else (L.h j).tr.get x := by
        rw [hh, hh']
        show (((L.h j).tr.put (L.h j).next _).put k none).get x = _
        rw [Tr.get_put, Tr.get_put]
      by_cases e : x = k
      · rw [if_pos e] at hx1
        by_cases h2 : (L.h j).tr.get x = none
        · rw [hx1, h2]
        · exact absurd ⟨hxl, h2, hx1⟩ hK
      · rw [hx1, if_neg e, if_neg (by omega)]
/- who kills -/
theorem Logged.kill_at (G : Logged P call nt ops L W H0) {j k : Nat} {o : Oper} (ho : ops[j]? = some o) (hn : ¬ effBar ops L j) (hk : Kill L j k) : isApp o.op = true ∧ isBar ops (masks [] ops.toList) j o = false ∧ oldName k (L.news j) = true ∧ L.w j = none ∧ killName (L.lin (masks [] ops.toList) j) (aEnvT (touch ops o) (L.t j)) o = some k := by
  obtain ⟨k1, k2, k3⟩ := hk
  have hat := G.at_ j _ ho
  cases hat with
  | skip hw hv ht hh hp => rw [hh] at k3; exact absurd k3 k2
  | sil hw hb hk k hsn h' hsame hs ht hh hp => rw [hh] at k3; exact absurd k3 k2
  | bar hw hb hs ht hp => exact absurd ⟨_, ho, hw, hp, hb⟩ hn
  | read hw hb hk h' hs ht hh hp =>
    have g := rStep_grow G.ok (h := L.hin _ j) (Nat.le_refl _) hs
    have e : (L.h (j + 1)).tr.get k = (L.h j).tr.get k := by rw [hh]; exact g.keep k k1
    rw [e] at k3
    exact absurd k3 k2
  | lst hw hb hk k' hsn hl h' hs ht hh hp hn =>
    obtain ⟨_, _, _, _, _, _, _, _, _, b, b', _, e, _⟩ := (G.at_ j _ ho).lst_is hn
    rw [e, put_tr, Tr.get_put] at k3
    split at k3
    · cases k3
    · exact absurd k3 k2
  | kil hw hb hk k' hkn hold h' hx hs ht hh hp hn =>
    obtain ⟨happ, _, b, nb, _, hh', _⟩ := kil_is hkn hx hs
    have hx1 : (L.h (j + 1)).tr.get k = if k = k' then none else if k = lo L j then some (.cells nb) else (L.h j).tr.get k := by
      rw [hh, hh']
      show (((L.h j).tr.put (L.h j).next _).put k' none).get k = _
      rw [Tr.get_put, Tr.get_put]
    by_cases e : k = k'
    · subst e
      exact ⟨happ, hb, hold, hn, hkn⟩
    · rw [hx1, if_neg e, if_neg (by omega)] at k3
      exact absurd k3 k2
theorem Logged.chunk (G : Logged P call nt ops L W H0) {s q : Nat} (hq : q ≤ ops.size) (hn : ∀ j, s ≤ j → j < q → ¬ effBar ops L j) : ∀ m, s ≤ m → m ≤ q → L.p m = L.p s ∧ ∀ k, k < lo L s → (∀ j, s ≤ j → j < m → L.w j ≠ some k) → (∀ j, s ≤ j → j < m → ¬ Kill L j k) → (L.h m).tr.get k = (L.h s).tr.get k := by
  intro m
  induction m with
  | zero => intro h1 _; obtain rfl : s = 0 := by omega
            exact ⟨rfl, fun _ _ _ _ => rfl⟩
  | succ m ih =>
    intro h1 h2
    by_cases e : s = m + 1
    · subst e; exact ⟨rfl, fun _ _ _ _ => rfl⟩
    · obtain ⟨a, b⟩ := ih (by omega) (by omega)
      obtain ⟨c, d⟩ := G.noBar (j := m) (by omega) (hn m (by omega) (by omega))
      exact ⟨c.trans a, fun k hk hw hK => (d k (Nat.lt_of_lt_of_le hk (G.mono (by omega) (by omega))) (hw m (by omega) (by omega)) (hK m (by omega) (by omega))).trans (b k hk (fun j h3 h4 => hw j h3 (by omega)) fun j h3 h4 => hK j h3 (by omega))⟩

theorem Logged.p_le (G : Logged P call nt ops L W H0) : ∀ (j : Nat), j ≤ ops.size → L.p j ≤ j ∧ ∀ i, i ≤ j → L.p i ≤ L.p j := by
  intro j
  induction j with
  | zero => intro _; exact ⟨by rw [G.p0]; exact Nat.le_refl _, fun i hi => by
      obtain rfl : i = 0 := by omega
      exact Nat.le_refl _⟩
  | succ j ih =>
    intro hj
    obtain ⟨a, b⟩ := ih (by omega)
    have hp : L.p (j + 1) = L.p j ∨ L.p (j + 1) = j + 1 := by
      have hat := G.at_ j _ (Array.getElem?_eq_getElem (by omega))
      cases hat with
      | skip hw hv ht hh hp => exact .inl hp
      | bar hw hb hs ht hp => exact .inr hp
      | read hw hb hk h' hs ht hh hp => exact .inl hp
      | lst hw hb hk k hsn hl h' hs ht hh hp => exact .inl hp
      | sil hw hb hk k hsn h' hsame hs ht hh hp => exact .inl hp
      | kil hw hb hk k hkn hold h' hx hs ht hh hp => exact .inl hp
    refine ⟨by omega, fun i hi => ?_⟩
    by_cases e : i = j + 1
    · subst e; exact Nat.le_refl _
    · have := b i (by omega); omega

/- names that an operation may see, and those that it may see behind itself -/
def outOk (H0 : List (Nat × Nat)) (k : Nat) : Prop := ∀ p ∈ H0, ¬(p.1 ≤ k ∧ k < p.2)
def inIv (L : Log) (m k : Nat) : Prop := lo L m ≤ k ∧ k < lo L (m + 1)
def VisTo (ops : Array Oper) (L : Log) (H0 : List (Nat × Nat)) (top j k : Nat) : Prop := k < top ∧ outOk H0 k ∧ ∀ m, L.p j ≤ m → m < j → before (masks [] ops.toList) m j = false → ¬ inIv L m k

theorem sees_iff {h : AH} {k : Nat} : h.sees k = true ↔ k < h.next ∧ outOk h.hid k := by
  unfold AH.sees outOk
  rw [Bool.and_eq_true, decide_eq_true_eq, Bool.not_eq_true', List.any_eq_false]
  refine and_congr Iff.rfl ⟨fun b p hp hc => ?_, fun b p hp => ?_⟩
  · have := b p hp
    simp only [Bool.and_eq_true, decide_eq_true_eq] at this
    exact this hc
  · have := b p hp
    simp only [Bool.and_eq_true, decide_eq_true_eq]
    exact this

theorem Logged.w_iv (G : Logged P call nt ops L W H0) {m k x : Nat} (hm : m < ops.size) (hw : L.w m = some x) : ¬ inIv L m k := by
  have := ((G.at_ m _ (Array.getElem?_eq_getElem hm)).lst_is hw).2.2.2.2.2.2.2.2.1
  rintro ⟨h1, h2⟩
  omega
theorem Log.ne_lt {m : Nat} (h : (L.ne m).2.1 < (L.ne m).2.2) : L.w m = none ∧ L.ne m = (m, lo L m, lo L (m + 1)) := by
  unfold Log.ne at *
  split at h
  · rename_i hw
    exact ⟨hw, by simp only [hw]⟩
  · simp only at h; omega
theorem Log.ne_1 (m : Nat) : (L.ne m).1 = m := by
  unfold Log.ne
  split <;> rfl
theorem Logged.hin_sees (G : Logged P call nt ops L W H0) {j : Nat} (hj : j ≤ ops.size) (top : Nat) (k : Nat) : ({ L.hin (masks [] ops.toList) j with next := top } : AH).sees k = true ↔ VisTo ops L H0 top j k := by
  rw [sees_iff]
  obtain ⟨_, b, _⟩ := G.const j hj
  unfold VisTo Log.hin AH.view Log.news
  dsimp only
  rw [b]
  refine and_congr Iff.rfl ⟨fun h => ⟨fun p hp => h p (List.mem_append_left _ hp), fun m h1 h2 h3 h4 => ?_⟩, fun h p hp => ?_⟩
  · have hwm : L.w m = none := by
      cases hw : L.w m with
      | none => rfl
      | some x => exact absurd h4 (G.w_iv (by omega) hw)
    have hne : L.ne m = (m, lo L m, lo L (m + 1)) := by unfold Log.ne; rw [hwm]
    refine h (lo L m, lo L (m + 1)) (List.mem_append_right _ ?_) h4
    refine List.mem_map.2 ⟨(m, lo L m, lo L (m + 1)), List.mem_filter.2 ⟨List.mem_map.2 ⟨m, List.mem_reverse.2 (List.mem_range'_1.2 ⟨h1, by omega⟩), hne⟩, ?_⟩, rfl⟩
    simp only [Bool.and_eq_true, decide_eq_true_eq, Bool.not_eq_true', h3, and_true]
    have := h4.1; have := h4.2; omega
  · rcases List.mem_append.1 hp with hp | hp
    · exact h.1 p hp
    · obtain ⟨x, hx, rfl⟩ := List.mem_map.1 hp
      obtain ⟨hx1, hx2⟩ := List.mem_filter.1 hx
      obtain ⟨m, hm, rfl⟩ := List.mem_map.1 hx1
      have hm' := List.mem_range'_1.1 (List.mem_reverse.1 hm)
      simp only [Bool.and_eq_true, decide_eq_true_eq, Bool.not_eq_true'] at hx2
      obtain ⟨_, he⟩ := Log.ne_lt hx2.1
      rw [Log.ne_1] at hx2
      rw [he]
      exact h.2 m hm'.1 (by omega) hx2.2

theorem inIv_uniq (G : Logged P call nt ops L W H0) {i j k : Nat} (hi : i < ops.size) (hj : j < ops.size) (a : inIv L i k) (b : inIv L j k) : i = j := by
  rcases Nat.lt_trichotomy i j with h | h | h
  · have := G.mono (i := i + 1) (j := j) (by omega) (by omega); have := a.2; have := b.1; omega
  · exact h
  · have := G.mono (i := j + 1) (j := i) (by omega) (by omega); have := a.1; have := b.2; omega
theorem inIv_find {s q k : Nat} (hsq : s ≤ q) (h1 : lo L s ≤ k) (h2 : k < lo L q) : ∃ j, s ≤ j ∧ j < q ∧ inIv L j k := by
  induction q with
  | zero =>
    obtain rfl : s = 0 := by omega
    omega
  | succ q ih =>
    by_cases e : s = q + 1
    · subst e; omega
    · by_cases h : k < lo L q
      · obtain ⟨j, a, b, c⟩ := ih (by omega) h
        exact ⟨j, a, by omega, c⟩
      · exact ⟨q, by omega, by omega, by omega, h2⟩

def dstOf (ops : Array Oper) (j : Nat) : Option Tmp := (ops[j]?).bind (·.dst)
/- what a slot holds, some operations being done -/
def valOf (ops : Array Oper) (L : Log) (D : Nat → Bool) (d : Nat) : Nat → Option Value
  | 0 => (L.t 0).get d
  | m + 1 => if D m = true ∧ dstOf ops m = some d then some (L.v m) else valOf ops L D d m

theorem aPut_get {t t' : Tr Value} {dst : Option Tmp} {v : Value} (e : aPut nt t dst v = some t') (d : Nat) : t'.get d = if dst = some d then some v else t.get d := by
  cases dst with
  | none => simp only [aPut, Option.some.injEq] at e; subst e; simp
  | some x =>
    simp only [aPut] at e
    split at e
    · injection e with e
      subst e
      rw [Tr.get_put]
      by_cases h : d = x
      · rw [if_pos h, if_pos (by rw [h])]
      · rw [if_neg h, if_neg (fun e => h (Option.some.inj e).symm)]
    · cases e
theorem LogAt.put {ms : List Nat} {i : Nat} {o : Oper} (h : LogAt P call nt ops ms L i o) : aPut nt (L.t i) o.dst (L.v i) = some (L.t (i + 1)) := by
  cases h with
  | skip hw hv ht hh hp => rw [hv]; exact ht
  | bar hw hb hs ht hp => exact ht
  | read hw hb hk h' hs ht hh hp => exact ht
  | lst hw hb hk k hsn hl h' hs ht hh hp => exact ht
  | sil hw hb hk k hsn h' hsame hs ht hh hp => exact ht
  | kil hw hb hk k hkn hold h' hx hs ht hh hp => exact ht

theorem Logged.text (G : Logged P call nt ops L W H0) (d : Nat) : ∀ m, m ≤ ops.size → (L.t m).get d = valOf ops L (fun _ => true) d m := by
  intro m
  induction m with
  | zero => intro _; rfl
  | succ m ih =>
    intro hm
    have ho := Array.getElem?_eq_getElem (xs := ops) (i := m) (by omega)
    rw [aPut_get (G.at_ m _ ho).put d, ih (by omega)]
    simp only [valOf, dstOf, ho, Option.bind_some, true_and]

/- at an operation that can be carried out, its slots hold what they held in the order of the text -/
theorem Logged.slot (G : Logged P call nt ops L W H0) {D : Nat → Bool} (hc : Closed ops D) {i : Nat} {o : Oper} (ho : ops[i]? = some o) (hi : D i = false) (hb : ∀ j, before (masks [] ops.toList) j i = true → D j = true) {d : Nat} (hd : d ∈ touch ops o) : valOf ops L D d ops.size = (L.t i).get d := by
  have hlt : i < ops.size := (Array.getElem?_eq_some_iff.1 ho).1
  rw [G.text d i (by omega)]
  have h1 : ∀ m, i ≤ m → m ≤ ops.size → valOf ops L D d m = valOf ops L D d i := by
    intro m
    induction m with
    | zero => intro h _; obtain rfl : i = 0 := by omega
              rfl
    | succ m ih =>
      intro h h'
      by_cases e : i = m + 1
      · rw [e]
      · rw [← ih (by omega) (by omega)]
        simp only [valOf]
        rw [if_neg]
        rintro ⟨hD, hdst⟩
        have hom := Array.getElem?_eq_getElem (xs := ops) (i := m) (by omega)
        by_cases e2 : m = i
        · subst e2; rw [hi] at hD; cases hD
        · have := slots_ordered G.slots ho hom e2 (by simpa [dstOf, hom] using hdst) hd
          unfold ordered at this
          rw [if_neg (by omega)] at this
          have := hc.before G.slots m i hD this
          rw [hi] at this
          cases this
  rw [h1 ops.size (by omega) (Nat.le_refl _)]
  have h2 : ∀ m, m ≤ i → valOf ops L D d m = valOf ops L (fun _ => true) d m := by
    intro m
    induction m with
    | zero => intro _; rfl
    | succ m ih =>
      intro h
      simp only [valOf, true_and]
      by_cases hdst : dstOf ops m = some d
      · have hom := Array.getElem?_eq_getElem (xs := ops) (i := m) (by omega)
        have := slots_ordered G.slots ho hom (by omega) (by simpa [dstOf, hom] using hdst) hd
        unfold ordered at this
        rw [if_pos (by omega)] at this
        rw [if_pos ⟨hb m this, hdst⟩, if_pos hdst]
      · rw [if_neg (fun h => hdst h.2), if_neg hdst]
        exact ih (by omega)
  exact h2 i (Nat.le_refl _)

/- where the value of a slot comes from -/
theorem valOf_src {D : Nat → Bool} {d : Nat} : ∀ m, (valOf ops L D d m = (L.t 0).get d) ∨ ∃ j, j < m ∧ D j = true ∧ dstOf ops j = some d ∧ valOf ops L D d m = some (L.v j) := by
  intro m
  induction m with
  | zero => exact .inl rfl
  | succ m ih =>
    simp only [valOf]
    by_cases h : D m = true ∧ dstOf ops m = some d
    · rw [if_pos h]; exact .inr ⟨m, by omega, h.1, h.2, rfl⟩
    · rw [if_neg h]
      rcases ih with ih | ⟨j, a, b, c, e⟩
      · exact .inl ih
      · exact .inr ⟨j, by omega, b, c, e⟩

def upD (D : Nat → Bool) (i : Nat) : Nat → Bool := fun j => if j = i then true else D j
theorem valOf_up (G : Logged P call nt ops L W H0) {D : Nat → Bool} (hc : Closed ops D) {i : Nat} {o : Oper} (ho : ops[i]? = some o) (hi : D i = false) (d : Nat) : valOf ops L (upD D i) d ops.size = if o.dst = some d then some (L.v i) else valOf ops L D d ops.size := by
  have hlt : i < ops.size := (Array.getElem?_eq_some_iff.1 ho).1
  have low : ∀ m, m ≤ i → valOf ops L (upD D i) d m = valOf ops L D d m := by
    intro m
    induction m with
    | zero => intro _; rfl
    | succ m ih =>
      intro h
      simp only [valOf, ih (by omega)]
      have : upD D i m = D m := if_neg (by omega)
      rw [this]
  have mid : valOf ops L (upD D i) d (i + 1) = if o.dst = some d then some (L.v i) else valOf ops L D d (i + 1) := by
    have e1 : upD D i i = true := if_pos rfl
    have e2 : dstOf ops i = o.dst := by simp [dstOf, ho]
    simp only [valOf, e1, e2, true_and, hi, Bool.false_eq_true, false_and, if_false, low i (Nat.le_refl _)]
  have high : ∀ m, i + 1 ≤ m → m ≤ ops.size → valOf ops L (upD D i) d m = if o.dst = some d then some (L.v i) else valOf ops L D d m := by
    intro m
    induction m with
    | zero => intro h _; omega
    | succ m ih =>
      intro h h'
      by_cases e : i = m
      · subst e; exact mid
      · have e1 : upD D i m = D m := if_neg (by omega)
        simp only [valOf, e1]
        rw [ih (by omega) (by omega)]
        by_cases hm : D m = true ∧ dstOf ops m = some d
        · rw [if_pos hm, if_pos hm]
          rw [if_neg]
          intro hd
          have hom := Array.getElem?_eq_getElem (xs := ops) (i := m) (by omega)
          have := slots_ordered G.slots ho hom (by omega) (d := d) (by simpa [dstOf, hom] using hm.2) (by unfold touch; simp [hd])
          unfold ordered at this
          rw [if_neg (by omega)] at this
          have := hc.before G.slots m i hm.1 this
          rw [hi] at this
          cases this
        · rw [if_neg hm, if_neg hm]
  exact high ops.size (by omega) (Nat.le_refl _)
end
end Go.Vm

/- VmN: A machine for closed runs, fourteenth part: what holds when some operations are done. -/
namespace Go.Vm
open Go Go.RowKit

def Av (ops : Array Oper) (L : Log) (D : Nat → Bool) (k : Nat) : Prop := ∀ m, m < ops.size → D m = false → ¬ inIv L m k
/- who made a name, or wrote its block; who was the last of those that are done; what a name's block bears -/
def Touch (L : Log) (m k : Nat) : Prop := inIv L m k ∨ L.w m = some k
def LastT (L : Log) (D : Nat → Bool) (q m k : Nat) : Prop := L.p q ≤ m ∧ m < q ∧ D m = true ∧ Touch L m k ∧ ∀ m', m < m' → m' < q → D m' = true → L.w m' ≠ some k
/- an old row whose place a new one has taken -/
def Killed (L : Log) (D : Nat → Bool) (q k n : Nat) : Prop := ∃ i, L.p q ≤ i ∧ i < q ∧ D i = true ∧ Kill L i k ∧ inIv L i n
def Cur (L : Log) (H0 : List (Nat × Nat)) (D : Nat → Bool) (q k : Nat) (o : AObj) : Prop := (k < lo L (L.p q) ∧ outOk H0 k ∧ (L.h (L.p q)).tr.get k = some o) ∨ ∃ m, LastT L D q m k ∧ (L.h (m + 1)).tr.get k = some o

structure SInv (ds : List Deferred) (nt : Nat) (ops : Array Oper) (L : Log) (W : Nat) (H0 : List (Nat × Nat)) (D : Nat → Bool) (q : Nat) (w0 : World) (φ : Nat → Nat × Nat) (κ : Nat → Nat) (a : Act) (w : World) : Prop where
  qle : q ≤ ops.size
  qlow : ∀ j, j < q → effBar ops L j → D j = true
  qbar : q < ops.size → effBar ops L q ∧ D q = false
  closed : Closed ops D
  below : Below w0.heap.size w0 w
  defers : a.defers = ds
  size : a.tmps.size = nt
  tm : ∀ d v, valOf ops L D d ops.size = some v → a.tmps[d]? = some (ren φ κ v)
  t0ok : ∀ d v, (L.t 0).get d = some v → okV (fun k => k < lo L 0 ∧ outOk H0 k) κ v
  vok : ∀ j, j < ops.size → D j = true → okV (fun k => VisTo ops L H0 (lo L (j + 1)) j k ∧ Av ops L D k) κ (L.v j)
  ent1 : ∀ k o, k < lo L (L.p q) → outOk H0 k → (L.h (L.p q)).tr.get k = some o → entOK φ κ (fun x => x < lo L (L.p q) ∧ outOk H0 x) w k o
  ent2 : ∀ m k o, LastT L D q m k → (L.h (m + 1)).tr.get k = some o → entOK φ κ (VisTo ops L H0 (lo L (m + 1)) m) w k o
  own : ∀ k o, Cur L H0 D q k o → rl κ k o → W ≤ k → w0.heap.size ≤ (φ k).1
  inj : ∀ k k' o o', Cur L H0 D q k o → Cur L H0 D q k' o' → rl κ k o → rl κ k' o' → W ≤ k → (φ k).1 = (φ k').1 → k = k' ∨ Killed L D q k k' ∨ Killed L D q k' k

section
variable {P : Program} {call : CallR} {nt : Nat} {ops : Array Oper} {L : Log} {W : Nat} {H0 : List (Nat × Nat)}
variable {D : Nat → Bool} {q : Nat} {w0 w w' : World} {φ φ' : Nat → Nat × Nat} {κ κ' : Nat → Nat} {a : Act} {ds : List Deferred}

theorem iv_heap (G : Logged P call nt ops L W H0) {m k : Nat} {o : Oper} (ho : ops[m]? = some o) (h : inIv L m k) : isPure o.op = false ∧ aWant ops (L.t m) o = some true := by
  have hat := G.at_ m o ho
  cases hat with
  | skip hw hv ht hh hp => unfold inIv lo at h; rw [hh] at h; omega
  | lst hw hb hk k' hsn hl h' hs ht hh hp hn => exact absurd h (G.w_iv (Array.getElem?_eq_some_iff.1 ho).1 hn)
  | sil hw hb hk k' hsn h' hsame hs ht hh hp => unfold inIv lo at h; rw [hh] at h; omega
  | kil hw hb hk k' hkn hold h' hx hs ht hh hp hn => exact ⟨(app_np (kil_is hkn hx hs).1).1, hw⟩
  | bar hw hb hs ht hp =>
    refine ⟨?_, hw⟩
    exact bar_np hb
  | read hw hb hk h' hs ht hh hp =>
    refine ⟨?_, hw⟩
    cases hp : isPure o.op with
    | false => rfl
    | true =>
      obtain ⟨e, _⟩ := rStep_pure hp hs
      unfold inIv lo at h
      rw [hh, e] at h
      have h1 := h.1
      have h2 : k < (L.h m).next := h.2
      omega

theorem p_bar (G : Logged P call nt ops L W H0) : ∀ (j : Nat), j ≤ ops.size → L.p j = 0 ∨ effBar ops L (L.p j - 1) ∧ 0 < L.p j := by
  intro j
  induction j with
  | zero => intro _; exact .inl G.p0
  | succ j ih =>
    intro hj
    have ho := Array.getElem?_eq_getElem (xs := ops) (i := j) (by omega)
    have hat := G.at_ j _ ho
    cases hat with
    | skip hw hv ht hh hp => rw [hp]; exact ih (by omega)
    | bar hw hb hs ht hp => rw [hp]; exact .inr ⟨⟨_, ho, hw, hp, hb⟩, by omega⟩
    | read hw hb hk h' hs ht hh hp => rw [hp]; exact ih (by omega)
    | lst hw hb hk k hsn hl h' hs ht hh hp => rw [hp]; exact ih (by omega)
    | sil hw hb hk k hsn h' hsame hs ht hh hp => rw [hp]; exact ih (by omega)
    | kil hw hb hk k hkn hold h' hx hs ht hh hp => rw [hp]; exact ih (by omega)

theorem no_bar (G : Logged P call nt ops L W H0) (hq : q ≤ ops.size) {j : Nat} (h1 : L.p q ≤ j) (h2 : j < q) : ¬ effBar ops L j := by
  rintro ⟨o, ho, hw, hp, hb⟩
  have := (G.p_le q hq).2 (j + 1) (by omega)
  omega

theorem touch_heap (G : Logged P call nt ops L W H0) {m k : Nat} {o : Oper} (ho : ops[m]? = some o) (h : Touch L m k) : isPure o.op = false ∧ aWant ops (L.t m) o = some true := by
  rcases h with h | h
  · exact iv_heap G ho h
  · obtain ⟨h1, _, _, _, _, _, _, h2, _⟩ := (G.at_ m o ho).lst_is h
    exact ⟨h2, h1⟩
theorem wOK_at {ms : List Nat} {i : Nat} {o : Oper} (h : wOK ms i o (L.news i) = true) (hp : isPure o.op = false) {m k : Nat} (h1 : L.p i ≤ m) (h2 : m < i) (hw : L.w m = some k) : before ms m i = true := by
  unfold wOK at h
  rw [hp, Bool.false_or, List.all_eq_true] at h
  have := h (L.ne m) (List.mem_map.2 ⟨m, List.mem_reverse.2 (List.mem_range'_1.2 ⟨h1, by omega⟩), rfl⟩)
  have hne : L.ne m = (m, k + 1, k) := by unfold Log.ne; rw [hw]
  rw [hne] at this
  simp only [Bool.or_eq_true, decide_eq_true_eq] at this
  rcases this with h | h
  · omega
  · exact h
theorem cfl_at {ms : List Nat} {i j : Nat} : ∀ {n : Nat}, (cfl ops ms i n).testBit j = false → ∀ m, m < n → pureAt ops m = false → before ms m i = false → before ms j m = false
  | 0, _, m, hm, _, _ => by omega
  | n + 1, h, m, hm, hp, hb => by
    unfold cfl at h
    by_cases e : m = n
    · subst e
      rw [hp, hb, if_neg (by simp), Nat.testBit_or, Bool.or_eq_false_iff] at h
      exact h.2
    · split at h
      · exact cfl_at h m (by omega) hp hb
      · rw [Nat.testBit_or, Bool.or_eq_false_iff] at h
        exact cfl_at h.1 m (by omega) hp hb
/- who made the name that a store writes -/
theorem w_maker2 (G : Logged P call nt ops L W H0) {m k : Nat} (hm : m < ops.size) (hw : L.w m = some k) : ∃ j, L.p m ≤ j ∧ j < m ∧ inIv L j k ∧ before (masks [] ops.toList) j m = true ∧ (∀ i o, i < m → ops[i]? = some o → isPure o.op = false → before (masks [] ops.toList) i m = false → before (masks [] ops.toList) j i = false) ∧ appAt ops j = false := by
  obtain ⟨_, _, _, _, hl, _, _, _, _⟩ := (G.at_ m _ (Array.getElem?_eq_getElem hm)).lst_is hw
  unfold locOK at hl
  obtain ⟨x, hx, hc⟩ := List.any_eq_true.1 hl
  simp only [Bool.and_eq_true, decide_eq_true_eq, Bool.not_eq_true'] at hc
  obtain ⟨⟨⟨⟨c1, c2⟩, c3⟩, c4⟩, c5⟩ := hc
  obtain ⟨j, hj, rfl⟩ := List.mem_map.1 hx
  have hj' := List.mem_range'_1.1 (List.mem_reverse.1 hj)
  obtain ⟨_, he⟩ := Log.ne_lt (L := L) (m := j) (by omega)
  rw [he] at c1 c2 c3 c4 c5
  refine ⟨j, hj'.1, by omega, ⟨c1, c2⟩, c3, fun i o hi ho hp hb => ?_, c5⟩
  exact cfl_at c4 i hi (by unfold pureAt; rw [ho]; exact hp) hb
theorem w_maker (G : Logged P call nt ops L W H0) {m k : Nat} (hm : m < ops.size) (hw : L.w m = some k) : ∃ j, L.p m ≤ j ∧ j < m ∧ inIv L j k ∧ before (masks [] ops.toList) j m = true ∧ ∀ i o, i < m → ops[i]? = some o → isPure o.op = false → before (masks [] ops.toList) i m = false → before (masks [] ops.toList) j i = false := by
  obtain ⟨j, h1, h2, h3, h4, h5, _⟩ := w_maker2 G hm hw
  exact ⟨j, h1, h2, h3, h4, h5⟩

theorem bar_before {b j : Nat} {o : Oper} (hb : effBar ops L b) (ho : ops[j]? = some o) (hp : isPure o.op = false) (hne : j ≠ b) (hx : j < b → isLd o.op = false) : if j < b then before (masks [] ops.toList) j b = true else before (masks [] ops.toList) b j = true := by
  obtain ⟨ob, hob, hw, _, hbar⟩ := hb
  have : ordered (masks [] ops.toList) j b = true := by
    rcases hbar with hbar | hbar
    · exact bar_ordered hbar ho hne hp
    · unfold softAt isSoft at hbar
      simp only [Bool.and_eq_true] at hbar
      have := List.all_eq_true.1 hbar.1.1.2 (o, j) (List.mem_zipIdx_iff_getElem?.2 (by simpa using ho))
      simp only [hp, hne, decide_false, Bool.false_or, Bool.or_eq_true, Bool.and_eq_true, decide_eq_true_eq] at this
      rcases this with h | ⟨h1, h2⟩
      · exact h
      · rw [hx h1] at h2
        cases h2
  unfold ordered at this
  by_cases h : j < b
  · rw [if_pos h] at this ⊢
    exact this
  · rw [if_neg h] at this ⊢
    exact this
/- a load makes nothing -/
theorem iv_noload (G : Logged P call nt ops L W H0) {m k : Nat} {o : Oper} (ho : ops[m]? = some o) (h : inIv L m k) : isLd o.op = false := by
  cases hl : isLd o.op with
  | false => rfl
  | true =>
    exfalso
    unfold isLd at hl
    split at hl
    · rename_i ty x he
      have key : ∀ {g g' : AH} {ρ : Env} {v : Value}, rStep P call g ρ o v g' → g' = g := fun {g g' ρ v} hs => by
        have : rStep P call g ρ o v g' = (aOp P g ρ o.op = some (v, g')) := by unfold rStep; rw [he]
        rw [this, he] at hs
        simp only [aOp] at hs
        split at hs
        · split at hs
          · simp only [Option.some.injEq, Prod.mk.injEq] at hs
            exact hs.2.symm
          · cases hs
        · cases hs
      have hat := G.at_ m o ho
      cases hat with
      | skip hw hv ht hh hp => unfold inIv lo at h; rw [hh] at h; omega
      | lst hw hb hk k' hsn hl h' hs ht hh hp hn => exact absurd h (G.w_iv (Array.getElem?_eq_some_iff.1 ho).1 hn)
      | sil hw hb hk k' hsn h' hsame hs ht hh hp => unfold inIv lo at h; rw [hh] at h; omega
      | kil hw hb hk k' hkn hold h' hx hs ht hh hp hn =>
        have := key hs
        rw [this] at hx
        have hx' : (L.h m).next = (L.h m).next + 1 := hx
        omega
      | bar hw hb hs ht hp =>
        have := key hs
        unfold inIv lo at h
        rw [this] at h
        omega
      | read hw hb hk h' hs ht hh hp =>
        have := key hs
        unfold inIv lo at h
        rw [hh, this] at h
        have h1 := h.1
        have h2 : k < (L.h m).next := h.2
        omega
    · cases hl
theorem touch_noload (G : Logged P call nt ops L W H0) {m k : Nat} {o : Oper} (ho : ops[m]? = some o) (h : Touch L m k) : isLd o.op = false := by
  rcases h with h | h
  · exact iv_noload G ho h
  · have hsn := ((G.at_ m o ho).lst_is h).2.2.2.1
    unfold stName at hsn
    split at hsn
    · rename_i he
      rw [he]
      rfl
    · cases hsn

/- what an operation's slots hold may be seen by it -/
theorem src_ok (G : Logged P call nt ops L W H0) (I : SInv ds nt ops L W H0 D q w0 φ κ a w) {i : Nat} {o : Oper} (ho : ops[i]? = some o) (hi : D i = false) {d : Nat} (hd : d ∈ touch ops o) {v : Value} (e : valOf ops L D d ops.size = some v) : okV (fun k => VisTo ops L H0 (lo L i) i k ∧ Av ops L D k) κ v := by
  have hlt : i < ops.size := (Array.getElem?_eq_some_iff.1 ho).1
  rcases valOf_src (ops := ops) (L := L) (D := D) (d := d) ops.size with h | ⟨j, hj, hDj, hdst, h⟩
  · rw [h] at e
    refine ok_mono (fun k hk => ⟨⟨Nat.lt_of_lt_of_le hk.1 (G.const i (by omega)).2.2, hk.2, fun m _ hm _ hv => ?_⟩, fun m hm _ hv => ?_⟩) (fun _ _ => rfl) _ (I.t0ok d v e)
    · have := (G.const m (by omega)).2.2; have := hv.1; omega
    · have := (G.const m (by omega)).2.2; have := hv.1; omega
  · rw [h] at e
    injection e with e
    subst e
    have hne : j ≠ i := fun e => by rw [e, hi] at hDj; cases hDj
    have hoj := Array.getElem?_eq_getElem hj
    have hord := slots_ordered G.slots ho hoj hne (by simpa [dstOf, hoj] using hdst) hd
    unfold ordered at hord
    have hji : j < i := by
      rcases Nat.lt_or_ge j i with h | h
      · exact h
      · rw [if_neg (by omega)] at hord
        have := I.closed.before G.slots j i hDj hord
        rw [hi] at this
        cases this
    rw [if_pos hji] at hord
    refine ok_mono (fun k hk => ⟨⟨Nat.lt_of_lt_of_le hk.1.1 (G.mono (by omega) (by omega)), hk.1.2.1, fun m h1 h2 h3 hv => ?_⟩, hk.2⟩) (fun _ _ => rfl) _ (I.vok j hj hDj)
    have hmj : m ≤ j := by
      rcases Nat.lt_or_ge j m with h | h
      · have := G.mono (i := j + 1) (j := m) (by omega) (by omega)
        have := hv.1
        have := hk.1.1
        omega
      · exact h
    by_cases e : m = j
    · rw [e, hord] at h3; cases h3
    · cases hb : before (masks [] ops.toList) m j with
      | true => rw [before_trans G.slots i j m hord hb] at h3; cases h3
      | false => exact hk.1.2.2 m (Nat.le_trans ((G.p_le i (by omega)).2 j (by omega)) h1) (by omega) hb hv

theorem sinv_env (G : Logged P call nt ops L W H0) (I : SInv ds nt ops L W H0 D q w0 φ κ a w) {i : Nat} {o : Oper} (ho : ops[i]? = some o) (hi : D i = false) (hb : ∀ j, before (masks [] ops.toList) j i = true → D j = true) {N : Nat → Prop} (hN : ∀ k, VisTo ops L H0 (lo L i) i k → Av ops L D k → N k) : ERel φ κ N (aEnvT (touch ops o) (L.t i)) a.eval := by
  have hlt : i < ops.size := (Array.getElem?_eq_some_iff.1 ho).1
  intro x v e
  cases x with
  | tmp d =>
    simp only [aEnvT] at e
    split at e
    · rename_i hc
      have hd : d ∈ touch ops o := List.contains_iff_mem.1 hc
      have hs := G.slot I.closed ho hi hb hd
      rw [e] at hs
      have hok := src_ok G I ho hi hd hs
      refine ⟨?_, ok_mono (fun k hk => hN k hk.1 hk.2) (fun _ _ => rfl) _ hok⟩
      simp only [Act.eval]
      rw [Array.getD_eq_getD_getElem?, I.tm d v hs]; rfl
    · cases e
  | const u =>
    simp only [aEnvT] at e
    split at e
    · rename_i hn
      injection e with e
      subst e
      exact ⟨(ren_noAddr _ _ _ hn).symm, ok_noAddr _ _ _ hn⟩
    · cases e
  | global g => cases e
  | func f =>
    simp only [aEnvT, Option.some.injEq] at e
    subst e
    exact ⟨rfl, by simp [okV, okF, okA, okL]⟩

theorem sinv_want (G : Logged P call nt ops L W H0) (I : SInv ds nt ops L W H0 D q w0 φ κ a w) {i : Nat} {o : Oper} (ho : ops[i]? = some o) (hi : D i = false) (hb : ∀ j, before (masks [] ops.toList) j i = true → D j = true) {b : Bool} (e : aWant ops (L.t i) o = some b) : Region.wanted o (yielded ops a.tmps) = b := by
  -- only the guard's slot counts
  unfold Region.wanted
  unfold aWant at e
  cases hgd : o.guard with
  | none => rw [hgd] at e; simp only [Option.some.injEq] at e; exact e
  | some g =>
    obtain ⟨j, want⟩ := g
    rw [hgd] at e
    simp only [yielded]
    simp only at e
    cases hd : (ops[j]?).bind (·.dst) with
    | none => rw [hd] at e; simp only [Option.some.injEq] at e; exact e
    | some d =>
      rw [hd] at e
      simp only [Option.bind_some]
      simp only at e
      have ht : d ∈ touch ops o := by unfold touch; simp [hgd, hd]
      have hs := G.slot I.closed ho hi hb ht
      cases hv : (L.t i).get d with
      | none => rw [hv] at e; cases e
      | some v =>
        rw [hv] at hs
        rw [I.tm d v hs]
        rw [hv] at e
        cases v with
        | bool c => simp only [Option.some.injEq] at e; rw [← e]; cases c <;> cases want <;> rfl
        | pointer x => simp only [Option.some.injEq] at e; rw [← e]; cases x <;> rfl
        | slice x n c =>
          simp only [Option.some.injEq] at e; rw [← e]
          obtain ⟨x2, c2, e2⟩ := ren_sl (φ := φ) (κ := κ) x n c
          rw [e2]; rfl
        | map x => simp only [Option.some.injEq] at e; rw [← e]; cases x <;> rfl
        | _ => simp only [Option.some.injEq] at e; rw [← e]; rfl

theorem upD_closed (hc : Closed ops D) {i : Nat} {o : Oper} (ho : ops[i]? = some o) (hr : ∀ e ∈ o.after, Region.binds .any e = true → D e.on = true) : Closed ops (upD D i) := by
  intro j oj hj hDj e he hb
  unfold upD at *
  by_cases e1 : e.on = i
  · rw [if_pos e1]
  · rw [if_neg e1]
    by_cases e2 : j = i
    · subst e2
      obtain rfl := Option.some.inj (ho.symm.trans hj)
      exact hr e he hb
    · rw [if_neg e2] at hDj
      exact hc j oj hj hDj e he hb
theorem upD_le {i j : Nat} (h : D j = true) : upD D i j = true := by unfold upD; split <;> simp_all
theorem upD_self (i : Nat) : upD D i i = true := if_pos rfl
theorem upD_false {i m : Nat} (h : upD D i m = false) : m ≠ i ∧ D m = false := by
  unfold upD at h
  split at h
  · cases h
  · exact ⟨by assumption, h⟩
theorem Killed_up {i k n : Nat} (h : Killed L D q k n) : Killed L (upD D i) q k n := by
  obtain ⟨j, h1, h2, h3, h4, h5⟩ := h
  exact ⟨j, h1, h2, upD_le h3, h4, h5⟩
theorem Av_up {i k : Nat} (h : Av ops L D k) : Av ops L (upD D i) k := fun m hm hd => h m hm (upD_false hd).2

/- a slot written -/
theorem tm_put (G : Logged P call nt ops L W H0) (hc : Closed ops D) {i : Nat} {o : Oper} (ho : ops[i]? = some o) (hi : D i = false) (hsz : a.tmps.size = nt)
    (htm : ∀ d v, valOf ops L D d ops.size = some v → a.tmps[d]? = some (ren φ κ v)) (d : Nat) (v : Value) (e : valOf ops L (upD D i) d ops.size = some v) : (a.put o.dst (ren φ κ (L.v i))).tmps[d]? = some (ren φ κ v) := by
  have hlt : i < ops.size := (Array.getElem?_eq_some_iff.1 ho).1
  rw [valOf_up G hc ho hi d] at e
  cases hdst : o.dst with
  | none => simp only [Act.put]; rw [hdst, if_neg (by simp)] at e; exact htm d v e
  | some x =>
    simp only [Act.put]
    have hput := (G.at_ i o ho).put
    rw [hdst] at hput
    have hx : x < nt := by
      simp only [aPut] at hput
      split at hput
      · assumption
      · cases hput
    rw [hdst] at e
    by_cases e1 : x = d
    · subst e1
      rw [if_pos rfl] at e
      injection e with e
      rw [← e, Array.getElem?_setIfInBounds_self_of_lt (by rw [hsz]; exact hx)]
    · rw [if_neg (fun h => e1 (Option.some.inj h))] at e
      rw [Array.getElem?_setIfInBounds_ne e1]
      exact htm d v e
theorem put_size (o : Option Tmp) (v : Value) : (a.put o v).tmps.size = a.tmps.size := by
  cases o <;> simp [Act.put]
theorem put_defers (o : Option Tmp) (v : Value) : (a.put o v).defers = a.defers := by
  cases o <;> rfl

/- an operation that touches no memory -/
theorem sinv_quiet (G : Logged P call nt ops L W H0) (I : SInv ds nt ops L W H0 D q w0 φ κ a w) {i : Nat} {o : Oper} (ho : ops[i]? = some o) (hi : D i = false) (hr : ∀ e ∈ o.after, Region.binds .any e = true → D e.on = true)
    (hq : i ≠ q) (hw : Below w.heap.size w w') (hiv : ∀ k, ¬ inIv L i k) (hwi : L.w i = none) (hv : okV (fun k => VisTo ops L H0 (lo L (i + 1)) i k ∧ Av ops L (upD D i) k) κ (L.v i)) : SInv ds nt ops L W H0 (upD D i) q w0 φ κ (a.put o.dst (ren φ κ (L.v i))) w' := by
  have hlast : ∀ m k, LastT L (upD D i) q m k → LastT L D q m k := by
    rintro m k ⟨h1, h2, h3, h4, h5⟩
    by_cases e : m = i
    · subst e
      rcases h4 with h4 | h4
      · exact absurd h4 (hiv k)
      · rw [hwi] at h4; cases h4
    · exact ⟨h1, h2, by unfold upD at h3; rwa [if_neg e] at h3, h4, fun m' a1 a2 a3 => h5 m' a1 a2 (upD_le a3)⟩
  have hcur : ∀ k ob, Cur L H0 (upD D i) q k ob → Cur L H0 D q k ob := by
    rintro k ob (h | ⟨m, h1, h2⟩)
    · exact .inl h
    · exact .inr ⟨m, hlast m k h1, h2⟩
  exact ⟨I.qle, fun j hj hb => upD_le (I.qlow j hj hb), fun h => ⟨(I.qbar h).1, by unfold upD; rw [if_neg (fun e => hq e.symm)]; exact (I.qbar h).2⟩, upD_closed I.closed ho hr, I.below.trans (hw.mono I.below.size), (put_defers _ _).trans I.defers, (put_size _ _).trans I.size, tm_put G I.closed ho hi I.size I.tm, I.t0ok,
    fun j hj hD => by
      by_cases e : j = i
      · subst e; exact hv
      · unfold upD at hD
        rw [if_neg e] at hD
        exact ok_mono (fun k hk => ⟨hk.1, Av_up hk.2⟩) (fun _ _ => rfl) _ (I.vok j hj hD),
    fun k ob h1 h2 h3 => (I.ent1 k ob h1 h2 h3).move (fun _ h => h) (fun _ _ => ⟨rfl, rfl⟩) ⟨rfl, rfl⟩ (fun hr => hw.block _ ((I.ent1 k ob h1 h2 h3).lt hr)), fun m k ob h1 h2 =>
      (I.ent2 m k ob (hlast m k h1) h2).move (fun _ h => h) (fun _ _ => ⟨rfl, rfl⟩) ⟨rfl, rfl⟩ (fun hr => hw.block _ ((I.ent2 m k ob (hlast m k h1) h2).lt hr)),
    fun k ob hk => I.own k ob (hcur k ob hk), fun k k' o1 o2 hk hk' h1 h2 h3 h4 => (I.inj k k' o1 o2 (hcur k o1 hk) (hcur k' o2 hk') h1 h2 h3 h4).imp id fun h => h.imp Killed_up Killed_up⟩
end
end Go.Vm

/- VmO: A machine for closed runs, fifteenth part: reading operations and those that part a region. -/
namespace Go.Vm
open Go Go.RowKit

section
variable {P : Program} {call : CallR} {nt : Nat} {ops : Array Oper} {L : Log} {W : Nat} {H0 : List (Nat × Nat)}
variable {D : Nat → Bool} {q : Nat} {w0 w w' : World} {φ φ' : Nat → Nat × Nat} {κ κ' : Nat → Nat} {a : Act} {ds : List Deferred}

theorem N_iff {h : AH} (k : Nat) : h.N k ↔ k < h.next ∧ outOk h.hid k := sees_iff

theorem out_of_lt (hb0 : ∀ p ∈ H0, p.2 ≤ (L.h 0).next) {k : Nat} (h : lo L 0 ≤ k) : outOk H0 k := fun p hp hc => by have := hb0 p hp; have := hc.2; unfold lo at h; omega

/- where a reading operation stands -/
theorem read_place (G : Logged P call nt ops L W H0) (I : SInv ds nt ops L W H0 D q w0 φ κ a w) {i : Nat} {o : Oper} (ho : ops[i]? = some o) (hi : D i = false) (hp : isPure o.op = false) (hnb : ¬ effBar ops L i) (hx : isLd o.op = false ∨ L.p q ≤ i) (hb : ∀ j, before (masks [] ops.toList) j i = true → D j = true) :
    i < q ∧ L.p q ≤ i ∧ L.p i = L.p q := by
  have hlt : i < ops.size := (Array.getElem?_eq_some_iff.1 ho).1
  have h1 : i < q := by
    rcases Nat.lt_or_ge i q with h | h
    · exact h
    · have hqs : q < ops.size := by omega
      obtain ⟨hb1, hb2⟩ := I.qbar hqs
      have hne : i ≠ q := fun e => hnb (e ▸ hb1)
      have := bar_before hb1 ho hp hne (fun h => by omega)
      rw [if_neg (by omega)] at this
      rw [hb q this] at hb2
      cases hb2
  have h2 : L.p q ≤ i := by
    rcases Nat.lt_or_ge i (L.p q) with h | h
    · rcases p_bar G q I.qle with h0 | ⟨h0, _⟩
      · omega
      · have hple := (G.p_le q I.qle).1
        have hDb := I.qlow _ (by omega) h0
        have hne : i ≠ L.p q - 1 := fun e => hnb (e ▸ h0)
        have := bar_before h0 ho hp hne (fun _ => by
          rcases hx with hx | hx
          · exact hx
          · omega)
        rw [if_pos (by omega)] at this
        have := I.closed.before G.slots _ i hDb this
        rw [hi] at this
        cases this
    · exact h
  have hc := G.chunk (s := L.p q) I.qle (fun j a b => no_bar G I.qle a b)
  exact ⟨h1, h2, ((hc i h2 (by omega)).1).trans ((hc q (by omega) (Nat.le_refl _)).1).symm⟩

/- a store in a piece writes none of the names of before -/
theorem w_high (G : Logged P call nt ops L W H0) {m k : Nat} (hm : m < ops.size) (hw : L.w m = some k) : lo L (L.p m) ≤ k := by
  obtain ⟨j, h1, h2, h3, _⟩ := w_maker G hm hw
  exact Nat.le_trans (G.mono h1 (by omega)) h3.1
theorem kill_low (G : Logged P call nt ops L W H0) (hq : q ≤ ops.size) {j k : Nat} (h1 : L.p q ≤ j) (h2 : j < q) (hk : Kill L j k) : k < lo L (L.p q) := by
  have hc := G.chunk (s := L.p q) hq (fun j a b => no_bar G hq a b)
  have hpj := ((hc j h1 (by omega)).1).trans ((hc q (G.p_le q hq).1 (Nat.le_refl _)).1).symm
  obtain ⟨_, _, hold, _, _⟩ := G.kill_at (Array.getElem?_eq_getElem (by omega)) (no_bar G hq h1 h2) hk
  rcases Nat.lt_or_ge k (lo L (L.p q)) with h | h
  · exact h
  · exfalso
    obtain ⟨m, m1, m2, m3⟩ := inIv_find (L := L) h1 h hk.1
    have hwm : L.w m = none := by
      cases hw : L.w m with
      | none => rfl
      | some x => exact absurd m3 (G.w_iv (by omega) hw)
    have hne : L.ne m = (m, lo L m, lo L (m + 1)) := by unfold Log.ne; rw [hwm]
    have := List.all_eq_true.1 hold _ (List.mem_map.2 ⟨m, List.mem_reverse.2 (List.mem_range'_1.2 ⟨by omega, by omega⟩), hne⟩)
    simp only [Bool.not_eq_true', Bool.and_eq_false_iff, decide_eq_false_iff_not] at this
    have := m3.1
    have := m3.2
    omega
/- a name of before that is alive was alive all along -/
theorem old_same (G : Logged P call nt ops L W H0) (hq : q ≤ ops.size) {k : Nat} {ob : AObj} (hk : k < lo L (L.p q)) : ∀ m, L.p q ≤ m → m ≤ q → (L.h m).tr.get k = some ob → (L.h (L.p q)).tr.get k = some ob ∧ ∀ j, L.p q ≤ j → j < m → ¬ Kill L j k := by
  have hc := G.chunk (s := L.p q) hq (fun j a b => no_bar G hq a b)
  intro m
  induction m with
  | zero => intro h1 _ g
            have e : L.p q = 0 := by omega
            rw [e]
            exact ⟨g, fun j _ _ => by omega⟩
  | succ m ih =>
    intro h1 h2 g
    by_cases e : L.p q = m + 1
    · rw [e]
      exact ⟨g, fun j _ _ => by omega⟩
    · have hK : ¬ Kill L m k := fun h => by rw [h.2.2] at g; cases g
      have hw : L.w m ≠ some k := fun hw => by
        have hj := w_high G (by omega) hw
        have hp1 := (hc m (by omega) (by omega)).1
        have hp2 := (hc q (G.p_le q hq).1 (Nat.le_refl _)).1
        rw [hp1, ← hp2] at hj
        omega
      have hs := (G.noBar (j := m) (by omega) (no_bar G hq (by omega) (by omega))).2 k (Nat.lt_of_lt_of_le hk (G.mono (by omega) (by omega))) hw hK
      rw [hs] at g
      obtain ⟨a, b⟩ := ih (by omega) (by omega) g
      refine ⟨a, fun j c1 c2 => ?_⟩
      by_cases e : j = m
      · subst e; exact hK
      · exact b j c1 (by omega)
/- the killed is old, the new one is not, and an append has made it -/
theorem killed_is (G : Logged P call nt ops L W H0) (hq : q ≤ ops.size) {k n : Nat} (h : Killed L D q k n) : k < lo L (L.p q) ∧ lo L (L.p q) ≤ n ∧ ∃ i, L.p q ≤ i ∧ i < q ∧ D i = true ∧ Kill L i k ∧ inIv L i n ∧ appAt ops i = true := by
  obtain ⟨i, h1, h2, h3, h4, h5⟩ := h
  have ho := Array.getElem?_eq_getElem (xs := ops) (i := i) (by omega)
  refine ⟨kill_low G hq h1 h2 h4, Nat.le_trans (G.mono h1 (by omega)) h5.1, i, h1, h2, h3, h4, h5, ?_⟩
  unfold appAt
  rw [ho]
  exact (G.kill_at ho (no_bar G hq h1 h2) h4).1
/- dead for good: two appends cannot take the same name -/
theorem kill_once (G : Logged P call nt ops L W H0) (hq : q ≤ ops.size) {i j k : Nat} (h1 : L.p q ≤ i) (h2 : i < q) (h3 : L.p q ≤ j) (h4 : j < q) (a : Kill L i k) (b : Kill L j k) : i = j := by
  have key : ∀ i j, L.p q ≤ i → i < j → j < q → Kill L i k → Kill L j k → False := by
    intro i j a1 a2 a3 ka kb
    obtain ⟨b1, b2, b3⟩ := kb
    cases hg : (L.h j).tr.get k with
    | none => exact b2 hg
    | some ob => exact (old_same G hq (kill_low G hq a1 (by omega) ka) j (by omega) (by omega) hg).2 i a1 a2 ka
  rcases Nat.lt_trichotomy i j with h | h | h
  · exact (key i j h1 h h4 a b).elim
  · exact h
  · exact (key j i h3 h h2 b a).elim

/- the last that touched a name in a piece of the text -/
theorem last_touch {j k : Nat} (hj : inIv L j k) : ∀ i, j < i → ∃ m, j ≤ m ∧ m < i ∧ Touch L m k ∧ ∀ m', m < m' → m' < i → L.w m' ≠ some k := by
  intro i
  induction i with
  | zero => intro h; omega
  | succ i ih =>
    intro h
    by_cases hw : L.w i = some k
    · exact ⟨i, by omega, by omega, .inr hw, fun m' _ _ => by omega⟩
    · by_cases e : j = i
      · subst e; exact ⟨j, by omega, by omega, .inl hj, fun m' _ _ => by omega⟩
      · obtain ⟨m, h1, h2, h3, h4⟩ := ih (by omega)
        refine ⟨m, h1, by omega, h3, fun m' a b => ?_⟩
        by_cases e2 : m' = i
        · subst e2; exact hw
        · exact h4 m' a (by omega)

theorem vis_up (G : Logged P call nt ops L W H0) {m i top x : Nat} (hi : i < ops.size) (hmi : before (masks [] ops.toList) m i = true) (htop : lo L (m + 1) ≤ top) (hx : VisTo ops L H0 (lo L (m + 1)) m x) : VisTo ops L H0 top i x := by
  have hlt := before_lt G.slots i m hmi
  refine ⟨Nat.lt_of_lt_of_le hx.1 htop, hx.2.1, fun m' c1 c2 c3 hv => ?_⟩
  have hmj : m' ≤ m := by
    rcases Nat.lt_or_ge m m' with h | h
    · have := G.mono (i := m + 1) (j := m') (by omega) (by omega)
      have := hv.1
      have := hx.1
      omega
    · exact h
  by_cases e : m' = m
  · rw [e, hmi] at c3; cases c3
  · cases hbm : before (masks [] ops.toList) m' m with
    | true => rw [before_trans G.slots i m m' hmi hbm] at c3; cases c3
    | false => exact hx.2.2 m' (Nat.le_trans ((G.p_le i (by omega)).2 m (by omega)) c1) (by omega) hbm hv

/- what a name bears when an operation is carried out is what it bore in the text -/
theorem cur_at (G : Logged P call nt ops L W H0) (I : SInv ds nt ops L W H0 D q w0 φ κ a w) {i : Nat} {o : Oper} (ho : ops[i]? = some o) (hi : D i = false) (hp : isPure o.op = false) (hnb : ¬ effBar ops L i) (hx : isLd o.op = false ∨ L.p q ≤ i) (hwk : wOK (masks [] ops.toList) i o (L.news i) = true) (hb : ∀ j, before (masks [] ops.toList) j i = true → D j = true)
    {k : Nat} {ob : AObj} (hv : VisTo ops L H0 (lo L i) i k) (g : (L.h i).tr.get k = some ob) :
    (k < lo L (L.p q) ∧ (L.h (L.p q)).tr.get k = some ob) ∨ ∃ m, m < i ∧ before (masks [] ops.toList) m i = true ∧ LastT L D q m k ∧ (L.h (m + 1)).tr.get k = some ob := by
  have hlt : i < ops.size := (Array.getElem?_eq_some_iff.1 ho).1
  obtain ⟨h1, h2, h3⟩ := read_place G I ho hi hp hnb hx hb
  rcases Nat.lt_or_ge k (lo L (L.p q)) with h | h
  · exact .inl ⟨h, (old_same G I.qle h i h2 (by omega) g).1⟩
  · right
    obtain ⟨j, a1, a2, a3⟩ := inIv_find h2 h hv.1
    have hbj : before (masks [] ops.toList) j i = true := by
      cases hbj : before (masks [] ops.toList) j i with
      | true => rfl
      | false => exact absurd a3 (hv.2.2 j (by omega) a2 hbj)
    obtain ⟨m, b1, b2, b3, b4⟩ := last_touch a3 i a2
    have hbm : before (masks [] ops.toList) m i = true := by
      rcases b3 with b3 | b3
      · rw [inIv_uniq G (by omega) (by omega) b3 a3]; exact hbj
      · exact wOK_at hwk hp (by omega) b2 b3
    refine ⟨m, b2, hbm, ⟨by omega, by omega, hb m hbm, b3, fun m' c1 c2 c3 c4 => ?_⟩, ?_⟩
    · rcases Nat.lt_trichotomy m' i with e | e | e
      · exact b4 m' c1 e c4
      · rw [e, hi] at c3; cases c3
      · obtain ⟨j', d1, d2, d3, d4, d5⟩ := w_maker G (by have := I.qle; omega) c4
        have hjj : j' = j := inIv_uniq G (by have := I.qle; omega) (by omega) d3 a3
        subst hjj
        cases hbi : before (masks [] ops.toList) i m' with
        | true =>
          have := I.closed.before G.slots m' i c3 hbi
          rw [hi] at this
          cases this
        | false =>
          rw [d5 i o e ho hp hbi] at hbj
          cases hbj
    · rw [← g]
      symm
      have hch := G.chunk (s := m + 1) (q := i) (by omega) (fun x a b => no_bar G I.qle (by omega) (by omega)) i (by omega) (Nat.le_refl _)
      refine hch.2 k ?_ (fun x c1 c2 => b4 x (by omega) c2) fun x c1 c2 c3 => ?_
      · have := G.mono (i := j + 1) (j := m + 1) (by omega) (by omega)
        have := a3.2
        omega
      · have := kill_low G I.qle (j := x) (by omega) (by omega) c3
        omega

/- what was undone cannot be seen -/
theorem vis_av (G : Logged P call nt ops L W H0) {i : Nat} {o : Oper} (ho : ops[i]? = some o) (hp : isPure o.op = false) (hb : ∀ j, before (masks [] ops.toList) j i = true → D j = true) {top k : Nat} (htop : top ≤ lo L (i + 1)) (hv : VisTo ops L H0 top i k) : Av ops L (upD D i) k := by
  intro m hm hD hiv
  have hlt : i < ops.size := (Array.getElem?_eq_some_iff.1 ho).1
  obtain ⟨hmi, hDm⟩ := upD_false hD
  have hmlt : m < i := by
    rcases Nat.lt_or_ge m i with h | h
    · exact h
    · have := G.mono (i := i + 1) (j := m) (by omega) (by omega)
      have := hiv.1
      have := hv.1
      omega
  have hnbm : before (masks [] ops.toList) m i = false := by
    cases h : before (masks [] ops.toList) m i with
    | false => rfl
    | true => rw [hb m h] at hDm; cases hDm
  rcases Nat.lt_or_ge m (L.p i) with h | h
  · rcases p_bar G i (by omega) with h0 | ⟨h0, _⟩
    · omega
    · have hple := (G.p_le i (by omega)).1
      have hom := Array.getElem?_eq_getElem hm
      have b1 := bar_before h0 ho hp (by omega) (fun h => by omega)
      rw [if_neg (by omega)] at b1
      by_cases e : m = L.p i - 1
      · rw [← e, hnbm] at b1; cases b1
      · have b2 := bar_before h0 hom (iv_heap G hom hiv).1 e (fun _ => iv_noload G hom hiv)
        rw [if_pos (by omega)] at b2
        rw [before_trans G.slots _ _ _ b1 b2] at hnbm
        cases hnbm
  · exact hv.2.2 m h hmlt hnbm hiv

/- the memory that a reading operation sees -/
theorem read_rel (G : Logged P call nt ops L W H0) (hb0 : ∀ p ∈ H0, p.2 ≤ (L.h 0).next) (I : SInv ds nt ops L W H0 D q w0 φ κ a w) {i : Nat} {o : Oper} (ho : ops[i]? = some o) (hi : D i = false) (hp : isPure o.op = false) (hnb : ¬ effBar ops L i) (hx : isLd o.op = false ∨ L.p q ≤ i) (hwk : wOK (masks [] ops.toList) i o (L.news i) = true) (hb : ∀ j, before (masks [] ops.toList) j i = true → D j = true) :
    Rel w φ κ (L.hin (masks [] ops.toList) i) w := by
  have hlt : i < ops.size := (Array.getElem?_eq_some_iff.1 ho).1
  obtain ⟨h1, h2, h3⟩ := read_place G I ho hi hp hnb hx hb
  have hN : ∀ k, (L.hin (masks [] ops.toList) i).N k ↔ VisTo ops L H0 (lo L i) i k := fun k => G.hin_sees (by omega) (lo L i) k
  refine ⟨Below.refl _ _, ?_, Nat.le_refl _, fun k ob g => ?_, fun k ob g _ hk => ?_, fun k k' o1 o2 g1 g2 _ _ hk => ?_⟩
  · intro p hp
    obtain ⟨_, c2, c3⟩ := G.const i (by omega)
    rcases List.mem_append.1 hp with hp | hp
    · rw [c2] at hp
      exact Nat.le_trans (hb0 p hp) c3
    · obtain ⟨x, hx, rfl⟩ := List.mem_map.1 hp
      obtain ⟨hx1, hx2⟩ := List.mem_filter.1 hx
      obtain ⟨m, hm, rfl⟩ := List.mem_map.1 hx1
      have hm' := List.mem_range'_1.1 (List.mem_reverse.1 hm)
      simp only [Bool.and_eq_true, decide_eq_true_eq] at hx2
      obtain ⟨_, he⟩ := Log.ne_lt hx2.1
      rw [he]
      exact G.mono (i := m + 1) (j := i) (by omega) (by omega)
  · have hv := (hN k).1 (get_sees g)
    rcases cur_at G I ho hi hp hnb hx hwk hb hv (get_tr (h := L.hin (masks [] ops.toList) i) g) with ⟨a3, a4⟩ | ⟨m, b1, b2, b3, b4⟩
    · refine (I.ent1 k ob a3 hv.2.1 a4).move (fun x hx => (hN x).2 ⟨Nat.lt_of_lt_of_le hx.1 (G.mono h2 (by omega)), hx.2, fun m c1 c2 _ hv => ?_⟩) (fun _ _ => ⟨rfl, rfl⟩) ⟨rfl, rfl⟩ fun _ => rfl
      have := G.mono (i := L.p q) (j := m) (by omega) (by omega)
      have := hv.1
      have := hx.1
      omega
    · exact (I.ent2 m k ob b3 b4).move (fun x hx => (hN x).2 (vis_up G hlt b2 (G.mono (i := m + 1) (j := i) (by omega) (by omega)) hx)) (fun _ _ => ⟨rfl, rfl⟩) ⟨rfl, rfl⟩ fun _ => rfl
  · have := ((hN k).1 (get_sees g)).1
    have hk' : lo L i ≤ k := hk
    omega
  · have := ((hN k).1 (get_sees g1)).1
    have hk' : lo L i ≤ k := hk
    omega

/- behind a reading operation -/
theorem sinv_read (G : Logged P call nt ops L W H0) (hb0 : ∀ p ∈ H0, p.2 ≤ (L.h 0).next) (I : SInv ds nt ops L W H0 D q w0 φ κ a w) {i : Nat} {o : Oper} (ho : ops[i]? = some o) (hi : D i = false) (hr : ∀ e ∈ o.after, Region.binds .any e = true → D e.on = true) (hp : isPure o.op = false) (hnb : ¬ effBar ops L i) (hx : isLd o.op = false ∨ L.p q ≤ i) (hwi : L.w i = none) (hb : ∀ j, before (masks [] ops.toList) j i = true → D j = true)
    {h' : AH} (hh : L.h (i + 1) = { h' with wlim := (L.h i).wlim, hid := (L.h i).hid }) (S : Step w φ κ (L.hin (masks [] ops.toList) i) φ' κ' h' w') (ov : okV h'.N κ' (L.v i)) :
    SInv ds nt ops L W H0 (upD D i) q w0 φ' κ' (a.put o.dst (ren φ' κ' (L.v i))) w' := by
  have hlt : i < ops.size := (Array.getElem?_eq_some_iff.1 ho).1
  obtain ⟨h1, h2, h3⟩ := read_place G I ho hi hp hnb hx hb
  have hnext : h'.next = lo L (i + 1) := by unfold lo; rw [hh]
  have htr : ∀ k, h'.tr.get k = (L.h (i + 1)).tr.get k := fun k => by rw [hh]
  have hN' : ∀ k, h'.N k ↔ VisTo ops L H0 (lo L (i + 1)) i k := by
    intro k
    rw [← G.hin_sees (by omega) (lo L (i + 1)) k, N_iff, sees_iff, hnext, S.hid]
  have agr : ∀ k, ¬ inIv L i k → φ' k = φ k ∧ κ' k = κ k := fun k hk => S.agr k (by
    rw [hnext]
    exact hk)
  have hbelow : ∀ b, b < w.heap.size → w'.heap[b]? = w.heap[b]? := S.rel.below.block
  have avi : ∀ k, Av ops L D k → ¬ inIv L i k := fun k h => h i hlt hi
  have old1 : ∀ k, k < lo L (L.p q) → ¬ inIv L i k := fun k hk hv => by
    have := G.mono (i := L.p q) (j := i) h2 (by omega)
    have := hv.1
    omega
  have old2 : ∀ j k, L.p q ≤ j → j < q → D j = true → VisTo ops L H0 (lo L (j + 1)) j k → ¬ inIv L i k := by
    intro j k a1 a2 a3 hv hiv
    have hij : i ≤ j := by
      rcases Nat.lt_or_ge j i with h | h
      · have := G.mono (i := j + 1) (j := i) (by omega) (by omega)
        have := hiv.1
        have := hv.1
        omega
      · exact h
    have hne : i ≠ j := fun e => by rw [← e, hi] at a3; cases a3
    cases hbij : before (masks [] ops.toList) i j with
    | true =>
      have := I.closed.before G.slots j i a3 hbij
      rw [hi] at this
      cases this
    | false =>
      have hpj := (G.p_le q I.qle).2 j (by omega)
      exact hv.2.2 i (by omega) (by omega) hbij hiv
  have iv_iv : ∀ j k, j < ops.size → D j = true → inIv L j k → ¬ inIv L i k := fun j k hj hD hv hv' => by
    have := inIv_uniq G hj hlt hv hv'
    rw [this, hi] at hD
    cases hD
  have iv_last : ∀ m k, LastT L D q m k → ¬ inIv L i k := by
    rintro m k ⟨a1, a2, a3, a4 | a4, _⟩
    · exact iv_iv m k (by have := I.qle; omega) a3 a4
    · obtain ⟨j, b1, b2, b3, b4, _⟩ := w_maker G (by have := I.qle; omega) a4
      exact iv_iv j k (by have := I.qle; omega) (I.closed.before G.slots m j a3 b4) b3
  have last_up : ∀ m k, LastT L (upD D i) q m k → (m = i ∧ inIv L i k) ∨ LastT L D q m k := by
    rintro m k ⟨a1, a2, a3, a4, a5⟩
    by_cases e : m = i
    · subst e
      rcases a4 with a4 | a4
      · exact .inl ⟨rfl, a4⟩
      · rw [hwi] at a4; cases a4
    · exact .inr ⟨a1, a2, by unfold upD at a3; rwa [if_neg e] at a3, a4, fun m' b1 b2 b3 => a5 m' b1 b2 (upD_le b3)⟩
  have hget : ∀ k ob, inIv L i k → (L.h (i + 1)).tr.get k = some ob → h'.get k = some ob := by
    intro k ob a4 g
    have hs : h'.sees k = true := (hN' k).2 ⟨a4.2, out_of_lt hb0 (Nat.le_trans (G.const i (by omega)).2.2 a4.1), fun m c1 c2 _ hv => by
      have := inIv_uniq G (by omega) hlt hv a4
      omega⟩
    unfold AH.get
    rw [if_pos hs, htr]
    exact g
  have hsrc : ∀ d v, valOf ops L D d ops.size = some v → ren φ' κ' v = ren φ κ v := by
    intro d v e
    rcases valOf_src (ops := ops) (L := L) (D := D) (d := d) ops.size with h | ⟨j, hj, hDj, _, h⟩
    · rw [h] at e
      exact ren_congr (fun k hk => agr k (fun hv => by
        have := (G.const i (by omega)).2.2
        have := hv.1
        have := hk.1
        omega)) _ (I.t0ok d v e)
    · rw [h] at e
      injection e with e
      subst e
      exact ren_congr (fun k hk => agr k (avi k hk.2)) _ (I.vok j hj hDj)
  have split : ∀ k ob, Cur L H0 (upD D i) q k ob → (Cur L H0 D q k ob ∧ ¬ inIv L i k ∧ (rl κ k ob → (φ k).1 < w.heap.size)) ∨ (inIv L i k ∧ h'.get k = some ob) := by
    rintro k ob (h | ⟨m, a1, g⟩)
    · exact .inl ⟨.inl h, old1 k h.1, (I.ent1 k ob h.1 h.2.1 h.2.2).lt⟩
    · rcases last_up m k a1 with ⟨e, a4⟩ | a1
      · subst e
        exact .inr ⟨a4, hget k ob a4 g⟩
      · exact .inl ⟨.inr ⟨m, a1, g⟩, iv_last m k a1, (I.ent2 m k ob a1 g).lt⟩
  refine ⟨I.qle, fun j hj hb' => upD_le (I.qlow j hj hb'), fun h => ⟨(I.qbar h).1, by unfold upD; rw [if_neg (by omega)]; exact (I.qbar h).2⟩, upD_closed I.closed ho hr, I.below.trans (S.rel.below.mono I.below.size), (put_defers _ _).trans I.defers, (put_size _ _).trans I.size, tm_put G I.closed ho hi I.size (fun d v hd => by rw [hsrc d v hd]; exact I.tm d v hd), fun d v hd0 => ?_, fun j hj hD => ?_, fun k ob k1 k2 g => ?_, fun m k ob k1 g => ?_, fun k ob k1 hr0 hk => ?_, fun k k' o1 o2 k1 k2 hr1 hr2 hk0 he => ?_⟩
  · refine ok_mono (fun _ h => h) (fun k hk => (agr k fun hv => ?_).2) _ (I.t0ok d v hd0)
    have := (G.const i (by omega)).2.2
    have := hv.1
    have := hk.1
    omega
  · by_cases e : j = i
    · subst e
      exact ok_mono (fun k hk => ⟨(hN' k).1 hk, vis_av G ho hp hb (Nat.le_refl _) ((hN' k).1 hk)⟩) (fun _ _ => rfl) _ ov
    · unfold upD at hD
      rw [if_neg e] at hD
      exact ok_mono (fun k hk => ⟨hk.1, Av_up hk.2⟩) (fun k hk => (agr k (avi k hk.2)).2) _ (I.vok j hj hD)
  · have E := I.ent1 k ob k1 k2 g
    exact E.move (fun _ h => h) (fun x hx => agr x (old1 x hx.1)) (agr k (old1 k k1)) (fun hr => hbelow _ (E.lt hr))
  · rcases last_up m k k1 with ⟨e, a4⟩ | k1
    · subst e
      exact (S.rel.ent k ob (hget k ob a4 g)).move (fun x hx => (hN' x).1 hx) (fun _ _ => ⟨rfl, rfl⟩) ⟨rfl, rfl⟩ fun _ => rfl
    · have E := I.ent2 m k ob k1 g
      exact E.move (fun _ h => h) (fun x hx => agr x (old2 m x k1.1 k1.2.1 k1.2.2.1 hx)) (agr k (iv_last m k k1)) (fun hr => hbelow _ (E.lt hr))
  · rcases split k ob k1 with h | h
    · rw [(agr k h.2.1).1]
      exact I.own k ob h.1 (rl_congr (agr k h.2.1).2 hr0) hk
    · have := S.rel.own k ob h.2 hr0 (by rw [S.wlim]; exact h.1.1)
      have := I.below.size
      omega
  · rcases split k o1 k1 with h | h
    · rcases split k' o2 k2 with h' | h'
      · rw [(agr k h.2.1).1, (agr k' h'.2.1).1] at he
        exact (I.inj k k' o1 o2 h.1 h'.1 (rl_congr (agr k h.2.1).2 hr1) (rl_congr (agr k' h'.2.1).2 hr2) hk0 he).imp id fun h => h.imp Killed_up Killed_up
      · have := S.rel.own k' o2 h'.2 hr2 (by rw [S.wlim]; exact h'.1.1)
        rw [(agr k h.2.1).1] at he
        have := h.2.2 (rl_congr (agr k h.2.1).2 hr1)
        omega
    · rcases split k' o2 k2 with h' | h'
      · have := S.rel.own k o1 h.2 hr1 (by rw [S.wlim]; exact h.1.1)
        rw [(agr k' h'.2.1).1] at he
        have := h'.2.2 (rl_congr (agr k' h'.2.1).2 hr2)
        omega
      · exact .inl (S.rel.inj k k' o1 o2 h.2 h'.2 hr1 hr2 (by rw [S.wlim]; exact h.1.1) he)

/- behind an append to an open row of before -/
theorem kil_step (G : Logged P call nt ops L W H0) (hb0 : ∀ p ∈ H0, p.2 ≤ (L.h 0).next) (I : SInv ds nt ops L W H0 D q w0 φ κ a w) {i : Nat} {o : Oper} (ho : ops[i]? = some o) (hi : D i = false) (hr : ∀ e ∈ o.after, Region.binds .any e = true → D e.on = true) (hnb : ¬ effBar ops L i) (hb : ∀ j, before (masks [] ops.toList) j i = true → D j = true)
    {k0 : Nat} {h' : AH} (hwk : wOK (masks [] ops.toList) i o (L.news i) = true) (hkn : killName (L.lin (masks [] ops.toList) i) (aEnvT (touch ops o) (L.t i)) o = some k0) (hxn : h'.next = (L.h i).next + 1) (hs : rStep P call (L.lin (masks [] ops.toList) i) (aEnvT (touch ops o) (L.t i)) o (L.v i) h') (hh : L.h (i + 1) = { h' with hid := (L.h i).hid }) (hwi : L.w i = none)
    {rd : Option Nat} {next : Act → World → Prop} {Q : Exit → Act → World → Prop} (hn : ∀ φ' κ' w', SInv ds nt ops L W H0 (upD D i) q w0 φ' κ' (a.put o.dst (ren φ' κ' (L.v i))) w' → Agree (lo L i) (lo L (i + 1)) φ κ φ' κ' → next (a.put o.dst (ren φ' κ' (L.v i))) w') : o.wpIn (fen rd) 0 P a w next Q := by
  have hlt : i < ops.size := (Array.getElem?_eq_some_iff.1 ho).1
  obtain ⟨happ, hW, b, nb, hgb, hh', hrun⟩ := kil_is hkn hxn hs
  have hp := (app_np happ).1
  have hld := (app_np happ).2
  obtain ⟨h1, h2, h3⟩ := read_place G I ho hi hp hnb (.inl hld) hb
  have R := read_rel G hb0 I ho hi hp hnb (.inl hld) hwk hb
  have hqs := I.qle
  obtain ⟨c1, c2, c3⟩ := G.const i (by omega)
  have hW' : W ≤ k0 := by rw [← c1]; exact hW
  have hk0i : k0 < lo L i := sees_lt (h := L.lin (masks [] ops.toList) i) (get_sees hgb)
  have hg0 : (L.h i).tr.get k0 = some (.cells b) := get_tr (h := L.lin (masks [] ops.toList) i) hgb
  have hnext : lo L (i + 1) = lo L i + 1 := by unfold lo; rw [hh]; exact hxn
  have hx1 : ∀ x, (L.h (i + 1)).tr.get x = if x = k0 then none else if x = lo L i then some (.cells nb) else (L.h i).tr.get x := by
    intro x
    rw [hh, hh']
    show (((L.h i).tr.put (L.h i).next _).put k0 none).get x = _
    rw [Tr.get_put, Tr.get_put]
  have hkill : Kill L i k0 := ⟨hk0i, by rw [hg0]; simp, by rw [hx1, if_pos rfl]⟩
  have hk0 : k0 < lo L (L.p q) := kill_low G hqs h2 h1 hkill
  have hbase := (old_same G hqs hk0 i h2 (by omega) hg0).1
  have hout0 : outOk H0 k0 := ((G.hin_sees (by omega) (lo L i) k0).1 (get_sees hgb)).2.1
  have curk : Cur L H0 D q k0 (.cells b) := .inl ⟨hk0, hout0, hbase⟩
  have hiv : ∀ x, inIv L i x ↔ x = lo L i := fun x => by unfold inIv; omega
  have hnew : (L.h (i + 1)).tr.get (lo L i) = some (.cells nb) := by rw [hx1, if_neg (by omega), if_pos rfl]
  refine hrun φ κ w a rd next Q R (sinv_env G I ho hi hb (fun k h1 _ => (G.hin_sees (by omega) (lo L i) k).2 h1)) fun φ' κ' w' K ov => ?_
  have agr : ∀ k, ¬ inIv L i k → φ' k = φ k ∧ κ' k = κ k := fun k hk => K.agr k (fun hc => hk ((hiv k).2 (by have h5 := hc.1; have h6 := hc.2; have h7 : (L.lin (masks [] ops.toList) i).next = lo L i := rfl; omega)))
  refine hn φ' κ' w' ?_ (fun k hk => agr k hk)
  have hN' : ∀ k, ((L.lin (masks [] ops.toList) i).new (.cells nb)).N k ↔ VisTo ops L H0 (lo L (i + 1)) i k := by
    intro k
    rw [← G.hin_sees (by omega) (lo L (i + 1)) k, N_iff, sees_iff, hnext]
    exact Iff.rfl
  have neq : ∀ x ox, Cur L H0 D q x ox → x ≠ k0 → rl κ x ox → κ k0 ≠ 0 → (φ x).1 ≠ (φ k0).1 := by
    intro x ox hc hne hrx hk e
    rcases I.inj k0 x _ _ curk hc hk hrx hW' e.symm with e | e | e
    · exact hne e.symm
    · obtain ⟨_, _, i', a1, a2, a3, a4, _, _⟩ := killed_is G hqs e
      rw [kill_once G hqs a1 a2 h2 h1 a4 hkill, hi] at a3
      cases a3
    · have := (killed_is G hqs e).2.1
      omega
  have curlt : ∀ x ox, Cur L H0 D q x ox → rl κ x ox → (φ x).1 < w.heap.size := by
    rintro x ox (hc | ⟨m, a1, a2⟩) hrx
    · exact (I.ent1 x ox hc.1 hc.2.1 hc.2.2).lt hrx
    · exact (I.ent2 m x ox a1 a2).lt hrx
  have other : ∀ x ox, Cur L H0 D q x ox → x ≠ k0 → rl κ x ox → w'.heap[(φ x).1]? = w.heap[(φ x).1]? := fun x ox hc hne hrx => K.blk _ (curlt x ox hc hrx) fun hk => neq x ox hc hne hrx hk
  have avi : ∀ k, Av ops L D k → ¬ inIv L i k := fun k h => h i hlt hi
  have old1 : ∀ k, k < lo L (L.p q) → ¬ inIv L i k := fun k hk hv => by
    have := G.mono (i := L.p q) (j := i) h2 (by omega)
    have := hv.1
    omega
  have old2 : ∀ j k, L.p q ≤ j → j < q → D j = true → VisTo ops L H0 (lo L (j + 1)) j k → ¬ inIv L i k := by
    intro j k a1 a2 a3 hv hiv
    have hij : i ≤ j := by
      rcases Nat.lt_or_ge j i with h | h
      · have := G.mono (i := j + 1) (j := i) (by omega) (by omega)
        have := hiv.1
        have := hv.1
        omega
      · exact h
    have hne : i ≠ j := fun e => by rw [← e, hi] at a3; cases a3
    cases hbij : before (masks [] ops.toList) i j with
    | true =>
      have := I.closed.before G.slots j i a3 hbij
      rw [hi] at this
      cases this
    | false =>
      have hpj := (G.p_le q I.qle).2 j (by omega)
      exact hv.2.2 i (by omega) (by omega) hbij hiv
  have iv_iv : ∀ j k, j < ops.size → D j = true → inIv L j k → ¬ inIv L i k := fun j k hj hD hv hv' => by
    have := inIv_uniq G hj hlt hv hv'
    rw [this, hi] at hD
    cases hD
  have iv_last : ∀ m k, LastT L D q m k → ¬ inIv L i k ∧ lo L (L.p q) ≤ k := by
    rintro m k ⟨a1, a2, a3, a4 | a4, _⟩
    · exact ⟨iv_iv m k (by omega) a3 a4, Nat.le_trans (G.mono a1 (by omega)) a4.1⟩
    · obtain ⟨j, b1, b2, b3, b4, _⟩ := w_maker G (by omega) a4
      exact ⟨iv_iv j k (by omega) (I.closed.before G.slots m j a3 b4) b3, Nat.le_trans (G.mono (i := L.p q) (j := j) (by
        have hc := G.chunk (s := L.p q) hqs (fun j a b => no_bar G hqs a b)
        have := ((hc m a1 (by omega)).1).trans ((hc q (by omega) (Nat.le_refl _)).1).symm
        omega) (by omega)) b3.1⟩
  have last_up : ∀ m k, LastT L (upD D i) q m k → (m = i ∧ inIv L i k) ∨ LastT L D q m k := by
    rintro m k ⟨a1, a2, a3, a4, a5⟩
    by_cases e : m = i
    · subst e
      rcases a4 with a4 | a4
      · exact .inl ⟨rfl, a4⟩
      · rw [hwi] at a4; cases a4
    · exact .inr ⟨a1, a2, by unfold upD at a3; rwa [if_neg e] at a3, a4, fun m' b1 b2 b3 => a5 m' b1 b2 (upD_le b3)⟩
  have hsrc : ∀ d v, valOf ops L D d ops.size = some v → ren φ' κ' v = ren φ κ v := by
    intro d v e
    rcases valOf_src (ops := ops) (L := L) (D := D) (d := d) ops.size with h | ⟨j, hj, hDj, _, h⟩
    · rw [h] at e
      exact ren_congr (fun k hk => agr k (fun hv => by
        have := hv.1
        have := hk.1
        omega)) _ (I.t0ok d v e)
    · rw [h] at e
      injection e with e
      subst e
      exact ren_congr (fun k hk => agr k (avi k hk.2)) _ (I.vok j hj hDj)
  have split : ∀ k ob, Cur L H0 (upD D i) q k ob → (Cur L H0 D q k ob ∧ ¬ inIv L i k) ∨ (k = lo L i ∧ ob = .cells nb) := by
    rintro k ob (h | ⟨m, a1, g⟩)
    · exact .inl ⟨.inl h, old1 k h.1⟩
    · rcases last_up m k a1 with ⟨e, a4⟩ | a1
      · subst e
        have e := (hiv k).1 a4
        subst e
        rw [hnew] at g
        injection g with g
        exact .inr ⟨rfl, g.symm⟩
      · exact .inl ⟨.inr ⟨m, a1, g⟩, (iv_last m k a1).1⟩
  have hownk : κ k0 ≠ 0 → w0.heap.size ≤ (φ k0).1 := fun hk => I.own k0 _ curk hk hW'
  have hloc : κ' (lo L i) ≠ 0 → (κ k0 ≠ 0 ∧ (φ' (lo L i)).1 = (φ k0).1) ∨ w.heap.size ≤ (φ' (lo L i)).1 := K.loc
  have newold : ∀ x ox, Cur L H0 D q x ox → rl κ x ox → κ' (lo L i) ≠ 0 → (φ' (lo L i)).1 = (φ x).1 → x = k0 := by
    intro x ox hc hrx hk e
    rcases hloc hk with ⟨a1, a2⟩ | a1
    · by_cases hx : x = k0
      · exact hx
      · exact absurd (e.symm.trans a2) (neq x ox hc hx hrx a1)
    · have := curlt x ox hc hrx
      omega
  refine ⟨I.qle, fun j hj hb' => upD_le (I.qlow j hj hb'), fun h => ⟨(I.qbar h).1, by unfold upD; rw [if_neg (by omega)]; exact (I.qbar h).2⟩, upD_closed I.closed ho hr, ⟨K.os.trans I.below.os, K.tape.trans I.below.tape, K.output.trans I.below.output, Nat.le_trans I.below.size K.size, fun x hx => ?_⟩, (put_defers _ _).trans I.defers, (put_size _ _).trans I.size, tm_put G I.closed ho hi I.size (fun d v hd => by rw [hsrc d v hd]; exact I.tm d v hd), fun d v hd0 => ?_, fun j hj hD => ?_, fun k ob k1 k2 g => ?_, fun m k ob k1 g => ?_, fun k ob k1 hr0 hk => ?_, fun k k' o1 o2 k1 k2 hr1 hr2 hk he => ?_⟩
  · rw [← I.below.block x hx]
    have := I.below.size
    refine K.blk x (by omega) fun hk e => ?_
    have := hownk hk
    omega
  · refine ok_mono (fun _ h => h) (fun k hk => (agr k fun hv => ?_).2) _ (I.t0ok d v hd0)
    have := hv.1
    have := hk.1
    omega
  · by_cases e : j = i
    · subst e
      exact ok_mono (fun k hk => ⟨(hN' k).1 hk, vis_av G ho hp hb (Nat.le_refl _) ((hN' k).1 hk)⟩) (fun _ _ => rfl) _ ov
    · unfold upD at hD
      rw [if_neg e] at hD
      exact ok_mono (fun k hk => ⟨hk.1, Av_up hk.2⟩) (fun k hk => (agr k (avi k hk.2)).2) _ (I.vok j hj hD)
  · have E := I.ent1 k ob k1 k2 g
    by_cases e : k = k0
    · subst e
      rw [hbase] at g
      injection g with g
      subst g
      have E2 : entOK φ κ (fun x => x < lo L (L.p q) ∧ outOk H0 x) w' k (.cells b) := by
        refine ⟨E.1, fun hr => ?_⟩
        obtain ⟨c, el, fz, e1, e2, e3, e4, _, e6⟩ := K.old.2 hr
        obtain ⟨_, _, _, _, _, _, _, e5, _⟩ := E.2 hr
        exact ⟨c, el, fz, e1, e2, e3, e4, e5, e6⟩
      exact E2.move (fun _ h => h) (fun x hx => agr x (old1 x hx.1)) (agr k (old1 k k1)) (fun _ => rfl)
    · exact E.move (fun _ h => h) (fun x hx => agr x (old1 x hx.1)) (agr k (old1 k k1)) (fun hr => other k ob (.inl ⟨k1, k2, g⟩) e hr)
  · rcases last_up m k k1 with ⟨e, a4⟩ | k1
    · subst e
      have e := (hiv k).1 a4
      subst e
      rw [hnew] at g
      injection g with g
      subst g
      exact K.new.move (fun x hx => (hN' x).1 hx) (fun _ _ => ⟨rfl, rfl⟩) ⟨rfl, rfl⟩ fun _ => rfl
    · have E := I.ent2 m k ob k1 g
      exact E.move (fun _ h => h) (fun x hx => agr x (old2 m x k1.1 k1.2.1 k1.2.2.1 hx)) (agr k (iv_last m k k1).1) (fun hr => other k ob (.inr ⟨m, k1, g⟩) (fun e => by have := (iv_last m k k1).2; omega) hr)
  · rcases split k ob k1 with h | ⟨e1, e2⟩
    · rw [(agr k h.2).1]
      exact I.own k ob h.1 (rl_congr (agr k h.2).2 hr0) hk
    · subst e1 e2
      rcases hloc hr0 with ⟨a1, a2⟩ | a1
      · rw [a2]; exact hownk a1
      · have := I.below.size
        omega
  · rcases split k o1 k1 with h | ⟨e1, e2⟩
    · rcases split k' o2 k2 with h' | ⟨e3, e4⟩
      · rw [(agr k h.2).1, (agr k' h'.2).1] at he
        exact (I.inj k k' o1 o2 h.1 h'.1 (rl_congr (agr k h.2).2 hr1) (rl_congr (agr k' h'.2).2 hr2) hk he).imp id fun h => h.imp Killed_up Killed_up
      · subst e3 e4
        rw [(agr k h.2).1] at he
        have e := newold k o1 h.1 (rl_congr (agr k h.2).2 hr1) hr2 he.symm
        subst e
        exact .inr (.inl ⟨i, h2, h1, upD_self _, hkill, (hiv _).2 rfl⟩)
    · subst e1 e2
      rcases split k' o2 k2 with h' | ⟨e3, e4⟩
      · rw [(agr k' h'.2).1] at he
        have e := newold k' o2 h'.1 (rl_congr (agr k' h'.2).2 hr2) hr1 he
        subst e
        exact .inr (.inr ⟨i, h2, h1, upD_self _, hkill, (hiv _).2 rfl⟩)
      · exact .inl e3.symm

/- a store into a block that was made in the same piece -/
theorem lst_step (G : Logged P call nt ops L W H0) (I : SInv ds nt ops L W H0 D q w0 φ κ a w) {i : Nat} {o : Oper} (ho : ops[i]? = some o) (hi : D i = false) (hr : ∀ e ∈ o.after, Region.binds .any e = true → D e.on = true) (hnb : ¬ effBar ops L i) (hb : ∀ j, before (masks [] ops.toList) j i = true → D j = true)
    {k0 : Nat} (hw : L.w i = some k0) {rd : Option Nat} {next : Act → World → Prop} {Q : Exit → Act → World → Prop} (hn : ∀ w', SInv ds nt ops L W H0 (upD D i) q w0 φ κ (a.put o.dst undef) w' → next (a.put o.dst undef) w') : o.wpIn (fen rd) 0 P a w next Q := by
  have hlt : i < ops.size := (Array.getElem?_eq_some_iff.1 ho).1
  obtain ⟨_, _, hwk, _, _, _, hv0, hp, hlo, b, b', hg, hh, hrun⟩ := (G.at_ i o ho).lst_is hw
  have hx : isLd o.op = false ∨ L.p q ≤ i := .inl (touch_noload G ho (.inr hw))
  obtain ⟨h1, h2, h3⟩ := read_place G I ho hi hp hnb hx hb
  obtain ⟨j, j1, j2, j3, j4, j5, j6⟩ := w_maker2 G hlt hw
  have hqs := I.qle
  have hk0 : lo L (L.p q) ≤ k0 := Nat.le_trans (G.mono (i := L.p q) (j := j) (by omega) (by omega)) j3.1
  have hW : W ≤ k0 := by
    have := (G.const j (by omega)).2.2
    have := G.le0
    have := j3.1
    unfold lo at *
    omega
  have hvis : VisTo ops L H0 (lo L i) i k0 := by
    rw [← G.hin_sees (by omega) (lo L i) k0]
    exact get_sees hg
  obtain ⟨m, b1, b2, b3, b4⟩ : ∃ m, m < i ∧ before (masks [] ops.toList) m i = true ∧ LastT L D q m k0 ∧ (L.h (m + 1)).tr.get k0 = some (.cells b) := by
    rcases cur_at G I ho hi hp hnb hx hwk hb hvis (get_tr (h := L.lin (masks [] ops.toList) i) hg) with ⟨h, _⟩ | h
    · omega
    · exact h
  have E0 := (I.ent2 m k0 _ b3 b4).move (N' := VisTo ops L H0 (lo L (i + 1)) i) (fun x hx => vis_up G hlt b2 (G.mono (i := m + 1) (j := i + 1) (by omega) (by omega)) hx) (fun _ _ => ⟨rfl, rfl⟩) ⟨rfl, rfl⟩ (fun _ => rfl)
  refine hrun φ κ _ w a rd next Q (sinv_env G I ho hi hb fun k hk _ => ⟨by rw [hlo]; exact hk.1, hk.2⟩) E0 fun ob en hk => hn _ ?_
  have curk : Cur L H0 D q k0 (.cells b) := .inr ⟨m, b3, b4⟩
  have hown := I.own k0 _ curk hk hW
  have other : ∀ x ox, Cur L H0 D q x ox → x ≠ k0 → rl κ x ox → (w.heap.setIfInBounds (φ k0).1 ob)[(φ x).1]? = w.heap[(φ x).1]? := fun x ox hc hne hrx => by
    rw [Array.getElem?_setIfInBounds_ne]
    intro e
    rcases I.inj k0 x _ _ curk hc hk hrx hW e with e | e | e
    · exact hne e.symm
    · have := (killed_is G hqs e).1
      omega
    · obtain ⟨_, _, i', a1, a2, a3, a4, a5, a6⟩ := killed_is G hqs e
      rw [inIv_uniq G (by omega) (by omega) a5 j3, j6] at a6
      cases a6
  have last_up : ∀ m' x, LastT L (upD D i) q m' x → (m' = i ∧ x = k0) ∨ (LastT L D q m' x ∧ x ≠ k0) := by
    rintro m' x ⟨a1, a2, a3, a4, a5⟩
    by_cases e : m' = i
    · subst e
      rcases a4 with a4 | a4
      · exact absurd a4 (G.w_iv hlt hw)
      · rw [hw] at a4
        exact .inl ⟨rfl, (Option.some.inj a4).symm⟩
    · have a3' : D m' = true := by unfold upD at a3; rwa [if_neg e] at a3
      refine .inr ⟨⟨a1, a2, a3', a4, fun m2 b1 b2 b3 => a5 m2 b1 b2 (upD_le b3)⟩, fun ex => ?_⟩
      subst ex
      rcases Nat.lt_or_ge m' i with hlt' | hge
      · exact a5 i hlt' h1 (upD_self _) hw
      · rcases a4 with a4 | a4
        · have := inIv_uniq G (by omega) (by omega) a4 j3
          omega
        · obtain ⟨j', d1, d2, d3, d4, d5⟩ := w_maker G (by omega) a4
          have hjj : j' = j := inIv_uniq G (by omega) (by omega) d3 j3
          subst hjj
          cases hbi : before (masks [] ops.toList) i m' with
          | true =>
            have := I.closed.before G.slots m' i a3' hbi
            rw [hi] at this
            cases this
          | false =>
            rw [d5 i o (by omega) ho hp hbi] at j4
            cases j4
  have cur_up : ∀ x ox, Cur L H0 (upD D i) q x ox → (x = k0 ∧ ox = .cells b') ∨ (Cur L H0 D q x ox ∧ x ≠ k0) := by
    rintro x ox (h | ⟨m', a1, g⟩)
    · exact .inr ⟨.inl h, fun e => by have := h.1; omega⟩
    · rcases last_up m' x a1 with ⟨e1, e2⟩ | ⟨h, hne⟩
      · subst e1 e2
        rw [hh, put_tr, Tr.get_put, if_pos rfl] at g
        exact .inl ⟨rfl, by injection g with g; exact g.symm⟩
      · exact .inr ⟨.inr ⟨m', h, g⟩, hne⟩
  have hvr : ren φ κ (L.v i) = undef := by rw [hv0]; exact ren_undef
  refine ⟨I.qle, fun j hj hb' => upD_le (I.qlow j hj hb'), fun h => ⟨(I.qbar h).1, by unfold upD; rw [if_neg (by omega)]; exact (I.qbar h).2⟩, upD_closed I.closed ho hr, ⟨I.below.os, I.below.tape, I.below.output, by simpa using I.below.size, fun x hx => ?_⟩, (put_defers _ _).trans I.defers, (put_size _ _).trans I.size, fun d v hd => ?_, I.t0ok, fun j hj hD => ?_, fun k ob k1 k2 g => ?_, fun m k ob k1 g => ?_, fun k ob k1 hr0 hk => ?_, fun k k' o1 o2 k1 k2 hr1 hr2 hkW he => ?_⟩
  · rw [← I.below.block x hx]
    show (w.heap.setIfInBounds (φ k0).1 ob)[x]? = _
    rw [Array.getElem?_setIfInBounds_ne (by omega)]
  · rw [← hvr]
    exact tm_put G I.closed ho hi I.size I.tm d v hd
  · by_cases e : j = i
    · subst e
      rw [hv0]
      exact ok_undef
    · unfold upD at hD
      rw [if_neg e] at hD
      exact ok_mono (fun k hk => ⟨hk.1, Av_up hk.2⟩) (fun _ _ => rfl) _ (I.vok j hj hD)
  · exact (I.ent1 k ob k1 k2 g).move (fun _ h => h) (fun _ _ => ⟨rfl, rfl⟩) ⟨rfl, rfl⟩ fun hrx => other k _ (.inl ⟨k1, k2, g⟩) (fun e => by omega) hrx
  · rcases last_up m k k1 with ⟨e1, e2⟩ | ⟨h, hne⟩
    · subst e1 e2
      rw [hh, put_tr, Tr.get_put, if_pos rfl] at g
      injection g with g
      subst g
      exact en
    · exact (I.ent2 m k ob h g).move (fun _ h => h) (fun _ _ => ⟨rfl, rfl⟩) ⟨rfl, rfl⟩ fun hrx => other k _ (.inr ⟨m, h, g⟩) hne hrx
  · rcases cur_up k ob k1 with ⟨e1, e2⟩ | ⟨h, _⟩
    · subst e1
      exact hown
    · exact I.own k ob h hr0 hk
  · rcases cur_up k o1 k1 with ⟨e1, e2⟩ | ⟨h, _⟩
    · rcases cur_up k' o2 k2 with ⟨e3, e4⟩ | ⟨h', _⟩
      · exact .inl (by rw [e1, e3])
      · subst e1 e2
        exact (I.inj k k' _ o2 curk h' hr1 hr2 hkW he).imp id fun h => h.imp Killed_up Killed_up
    · rcases cur_up k' o2 k2 with ⟨e3, e4⟩ | ⟨h', _⟩
      · subst e3 e4
        exact (I.inj k k' o1 _ h curk hr1 hr2 hkW he).imp id fun h => h.imp Killed_up Killed_up
      · exact (I.inj k k' o1 o2 h h' hr1 hr2 hkW he).imp id fun h => h.imp Killed_up Killed_up
/- behind a store that leaves its block as it was -/
/- a load of a number that is done late: behind a store into another block -/
theorem unwr_get (G : Logged P call nt ops L W H0) {s j i : Nat} (hs : unwr ops s j i = true) (hi : i ≤ ops.size) : ∀ m, j ≤ m → m ≤ i → (L.t m).get s = (L.t j).get s := by
  intro m
  induction m with
  | zero => intro h _; obtain rfl : j = 0 := by omega
            rfl
  | succ m ih =>
    intro h1 h2
    by_cases e : j = m + 1
    · rw [e]
    · rw [← ih (by omega) (by omega)]
      have ho := Array.getElem?_eq_getElem (xs := ops) (i := m) (by omega)
      rw [aPut_get (G.at_ m _ ho).put s, if_neg]
      have := List.all_eq_true.1 hs m (List.mem_range'_1.2 ⟨by omega, by omega⟩)
      rw [decide_eq_true_eq, ho] at this
      exact this
theorem soft_late (G : Logged P call nt ops L W H0) {i m : Nat} {o : Oper} (ho : ops[i]? = some o) (hp : isPure o.op = false) (hld : isLd o.op = true) (him : i < m) (hms : m < ops.size) (hb : effBar ops L m) (hbf : before (masks [] ops.toList) i m = false) :
    ∃ k ty s x, L.w m = none ∧ o.op = .load ty (.tmp s) ∧ (L.t i).get s = some (.pointer (some x)) ∧ x.block ≠ k ∧ noAddr (L.v i) = true ∧ ∀ n, n < lo L m → n ≠ k → (L.h (m + 1)).tr.get n = (L.h m).tr.get n := by
  obtain ⟨om, hom, hw, hpm, hbar⟩ := hb
  have hsoft : softAt ops (masks [] ops.toList) m om (L.t m) = true := by
    rcases hbar with h | h
    · have := bar_ordered h ho (by omega) hp
      unfold ordered at this
      rw [if_pos him, hbf] at this
      cases this
    · exact h
  unfold softAt at hsoft
  rw [Bool.and_eq_true] at hsoft
  obtain ⟨_, hsoft⟩ := hsoft
  split at hsoft
  · rename_i k hk
    have h1 := List.all_eq_true.1 hsoft i (List.mem_range.2 him)
    rw [ho] at h1
    simp only [hld, hbf, Bool.not_true, Bool.false_or] at h1
    unfold lateOK at h1
    rw [Bool.and_eq_true] at h1
    obtain ⟨_, h1⟩ := h1
    split at h1
    · rename_i ty s d he hd
      simp only [Bool.and_eq_true] at h1
      obtain ⟨⟨⟨u1, u2⟩, v1⟩, v2⟩ := h1
      rw [unwr_get G u1 (by omega) m (by omega) (Nat.le_refl _)] at v1
      rw [unwr_get G u2 (by omega) m (by omega) (Nat.le_refl _)] at v2
      have hput := aPut_get (G.at_ i o ho).put d
      rw [hd, if_pos rfl] at hput
      rw [hput] at v2
      split at v1
      · rename_i x hx
        rw [decide_eq_true_eq] at v1
        have hat := G.at_ m om hom
        cases hat with
        | skip hw' hv ht hh hp' hn => rw [hw] at hw'; cases hw'
        | bar hw' hb' hs ht hp' hn =>
          obtain ⟨_, _, _, b, b', _, e, _⟩ := rStep_lst hk hs
          refine ⟨k, ty, s, x, hn, he, hx, v1, v2, fun n _ hne => ?_⟩
          rw [e, put_tr, Tr.get_put, if_neg hne]
        | read hw' hb' hk' h' hs ht hh hp' hn => have := (G.p_le m (by omega)).1; omega
        | sil hw' hb' hk' k' hsn h' hsame hs ht hh hp' hn => have := (G.p_le m (by omega)).1; omega
        | kil hw' hb' hk' k' hkn hold h' hx' hs ht hh hp' hn => have := (G.p_le m (by omega)).1; omega
        | lst hw' hb' hk' k' hsn hl h' hs ht hh hp' hn => have := (G.p_le m (by omega)).1; omega
      · cases v1
    · cases h1
  · cases hsoft
theorem late_step (G : Logged P call nt ops L W H0) (hb0 : ∀ p ∈ H0, p.2 ≤ (L.h 0).next) (I : SInv ds nt ops L W H0 D q w0 φ κ a w) {i : Nat} {o : Oper} (ho : ops[i]? = some o) (hi : D i = false) (hr : ∀ e ∈ o.after, Region.binds .any e = true → D e.on = true) (hp : isPure o.op = false) (hnb : ¬ effBar ops L i) (hwi : L.w i = none) (hld : isLd o.op = true) (hlate : i < L.p q) (hb : ∀ j, before (masks [] ops.toList) j i = true → D j = true)
    {h' : AH} (hs : rStep P call (L.hin (masks [] ops.toList) i) (aEnvT (touch ops o) (L.t i)) o (L.v i) h')
    {rd : Option Nat} {next : Act → World → Prop} {Q : Exit → Act → World → Prop} (hn : ∀ w', SInv ds nt ops L W H0 (upD D i) q w0 φ κ (a.put o.dst (ren φ κ (L.v i))) w' → next (a.put o.dst (ren φ κ (L.v i))) w') : o.wpIn (fen rd) 0 P a w next Q := by
  have hlt : i < ops.size := (Array.getElem?_eq_some_iff.1 ho).1
  have hqs := I.qle
  have hpq := (G.p_le q hqs).1
  obtain ⟨hbb, hpos⟩ : effBar ops L (L.p q - 1) ∧ 0 < L.p q := by
    rcases p_bar G q hqs with h | h
    · omega
    · exact h
  have hDb : D (L.p q - 1) = true := I.qlow _ (by omega) hbb
  have hib : i < L.p q - 1 := by
    rcases Nat.lt_or_ge i (L.p q - 1) with h | h
    · exact h
    · obtain rfl : i = L.p q - 1 := by omega
      exact absurd hbb hnb
  have hbf : ∀ m, i < m → m < q → effBar ops L m → before (masks [] ops.toList) i m = false := fun m h1 h2 h3 => by
    cases hc : before (masks [] ops.toList) i m with
    | false => rfl
    | true =>
      have := I.closed.before G.slots m i (I.qlow m h2 h3) hc
      rw [hi] at this
      cases this
  obtain ⟨_, ty, s, x, _, he, hx, _, hnv, _⟩ := soft_late G ho hp hld hib (by omega) hbb (hbf _ hib (by omega) hbb)
  -- what the load asked in the text
  have hop : ∀ (g g' : AH) (ρ : Env) (v : Value), rStep P call g ρ o v g' = (aOp P g ρ (.load ty (.tmp s)) = some (v, g')) := fun g g' ρ v => by unfold rStep; rw [he]
  have hst : s ∈ touch ops o := by
    have hs' := hs
    rw [hop] at hs'
    simp only [aOp, aEnvT] at hs'
    by_cases hc : (touch ops o).contains s = true
    · exact List.contains_iff_mem.1 hc
    · rw [if_neg hc] at hs'
      cases hs'
  have hρ : aEnvT (touch ops o) (L.t i) (.tmp s) = some (.pointer (some x)) := by
    simp only [aEnvT, List.contains_iff_mem.2 hst, if_true, hx]
  have hl : aLoad P (L.hin (masks [] ops.toList) i) ty (.pointer (some x)) = some (L.v i) := by
    have hs' := hs
    rw [hop] at hs'
    simp only [aOp, hρ] at hs'
    split at hs'
    · rename_i u hu
      simp only [Option.some.injEq, Prod.mk.injEq] at hs'
      rw [← hs'.1]
      exact hu
    · cases hs'
  obtain ⟨bl, hg⟩ : ∃ bl, (L.hin (masks [] ops.toList) i).get x.block = some (.cells bl) := by
    have hl' := hl
    unfold aLoad at hl'
    split at hl'
    · rename_i k off heq
      cases heq
      split at hl'
      · rename_i b d inf hgb _ _
        exact ⟨b, hgb⟩
      · cases hl'
    · cases hl'
  have hvis := (G.hin_sees (by omega) (lo L i) x.block).1 (get_sees hg)
  have htr : (L.h i).tr.get x.block = some (.cells bl) := get_tr (h := L.hin (masks [] ops.toList) i) hg
  have hxlt : x.block < lo L i := hvis.1
  -- the block is as it was
  have hlw : ∀ m, i < m → m < q → L.w m ≠ some x.block := by
    intro m h1 h2 hw
    obtain ⟨j, j1, j2, j3, j4, j5⟩ := w_maker G (by omega) hw
    have hji : j < i := by
      rcases Nat.lt_or_ge j i with h | h
      · exact h
      · have := G.mono (i := i) (j := j) h (by omega)
        have := j3.1
        omega
    have hpi : L.p i ≤ j := Nat.le_trans ((G.p_le m (by omega)).2 i (by omega)) j1
    have hnj : before (masks [] ops.toList) j i = true := by
      cases hc : before (masks [] ops.toList) j i with
      | true => rfl
      | false => exact absurd j3 (hvis.2.2 j hpi hji hc)
    have him : before (masks [] ops.toList) i m = true := by
      cases hc : before (masks [] ops.toList) i m with
      | true => rfl
      | false =>
        rw [j5 i o h1 ho hp hc] at hnj
        cases hnj
    have hom := Array.getElem?_eq_getElem (xs := ops) (i := m) (by omega)
    obtain ⟨_, _, _, _, _, hpm, _, hpur, _⟩ := (G.at_ m _ hom).lst_is hw
    rcases Nat.lt_or_ge m (L.p q) with h | h
    · have hne : m ≠ L.p q - 1 := fun e => by
        obtain ⟨_, _, _, hpb, _⟩ := hbb
        rw [← e] at hpb
        have := (G.p_le m (by omega)).1
        omega
      have := bar_before hbb hom hpur hne (fun _ => touch_noload G hom (.inr hw))
      rw [if_pos (by omega)] at this
      have hDm := I.closed.before G.slots _ m hDb this
      have := I.closed.before G.slots m i hDm him
      rw [hi] at this
      cases this
    · have hc := G.chunk (s := L.p q) I.qle (fun j a b => no_bar G I.qle a b)
      have := ((hc m h (by omega)).1).trans ((hc q hpq (Nat.le_refl _)).1).symm
      omega
  have hnk : ∀ m, m < L.p q → ¬ effBar ops L m → ¬ Kill L m x.block := by
    intro m h1 h2 h3
    have hom := Array.getElem?_eq_getElem (xs := ops) (i := m) (by omega)
    obtain ⟨a1, a2, _⟩ := G.kill_at hom h2 h3
    have hmb : m < L.p q - 1 := by
      rcases Nat.lt_or_ge m (L.p q - 1) with h | h
      · exact h
      · obtain rfl : m = L.p q - 1 := by omega
        exact absurd hbb h2
    obtain ⟨ob, hob, _, _, hbar⟩ := hbb
    rcases hbar with hbar | hbar
    · have := bar_ordered hbar ho (by omega) hp
      unfold ordered at this
      rw [if_pos hib, hbf _ hib (by omega) ⟨ob, hob, by assumption, by assumption, .inl hbar⟩] at this
      cases this
    · unfold softAt isSoft at hbar
      simp only [Bool.and_eq_true] at hbar
      have := List.all_eq_true.1 hbar.1.2 m (List.mem_range.2 hmb)
      unfold appAt barAt at this
      rw [hom] at this
      simp only [a1, a2, Bool.not_true, Bool.or_self] at this
      cases this
  have hsame : ∀ m, i ≤ m → m ≤ L.p q → (L.h m).tr.get x.block = some (.cells bl) := by
    intro m
    induction m with
    | zero => intro h _; obtain rfl : i = 0 := by omega
              exact htr
    | succ m ih =>
      intro h1 h2
      by_cases e : i = m + 1
      · rw [← e]; exact htr
      · rw [← ih (by omega) (by omega)]
        have hxm : x.block < lo L m := Nat.lt_of_lt_of_le hxlt (G.mono (by omega) (by omega))
        by_cases hbm : effBar ops L m
        · have hne : i < m := by
            rcases Nat.lt_or_ge i m with h | h
            · exact h
            · obtain rfl : i = m := by omega
              exact absurd hbm hnb
          obtain ⟨k, _, s2, x2, _, he2, hx2, hk2, _, hkeep⟩ := soft_late G ho hp hld hne (by omega) hbm (hbf m hne (by omega) hbm)
          rw [he] at he2
          injection he2 with _ e2
          injection e2 with e2
          subst e2
          rw [hx] at hx2
          cases hx2
          exact hkeep _ hxm hk2
        · refine (G.noBar (by omega) hbm).2 _ hxm ?_ ?_
          · rcases Nat.lt_or_ge i m with h | h
            · exact hlw m h (by omega)
            · obtain rfl : i = m := by omega
              rw [hwi]
              simp
          · exact hnk m (by omega) hbm
  have hxq : x.block < lo L (L.p q) := Nat.lt_of_lt_of_le hxlt (G.mono (by omega) (by omega))
  have E := I.ent1 x.block _ hxq hvis.2.1 (hsame (L.p q) (by omega) (Nat.le_refl _))
  -- a memory of that block alone
  let g : AH := ⟨Tr.leaf.put x.block (some (.cells bl)), lo L (L.p q), lo L (L.p q), H0⟩
  have hgN : ∀ k, g.N k ↔ k < lo L (L.p q) ∧ outOk H0 k := fun k => N_iff k
  have hgg : ∀ k ob, g.get k = some ob → k = x.block ∧ ob = .cells bl := fun k ob hk => by
    have := get_tr hk
    have h2 : (Tr.leaf.put x.block (some (AObj.cells bl))).get k = some ob := this
    rw [Tr.get_put, Tr.get_leaf] at h2
    split at h2
    · cases h2
      exact ⟨by assumption, rfl⟩
    · cases h2
  have hgx : g.get x.block = some (.cells bl) := by
    unfold AH.get
    rw [if_pos (show g.sees x.block = true from (hgN _).2 ⟨hxq, hvis.2.1⟩)]
    show (Tr.leaf.put x.block (some (AObj.cells bl))).get x.block = _
    rw [Tr.get_put, if_pos rfl]
  have Rg : Rel w φ κ g w := by
    refine ⟨Below.refl _ _, fun p hp => ?_, Nat.le_refl _, fun k ob hk => ?_, fun k ob hk _ hk2 => ?_, fun k k' o1 o2 hk _ _ _ hk2 => ?_⟩
    · exact Nat.le_trans (hb0 p hp) (G.const (L.p q) (by omega)).2.2
    · obtain ⟨rfl, rfl⟩ := hgg k ob hk
      exact E.move (fun y hy => (hgN y).2 hy) (fun _ _ => ⟨rfl, rfl⟩) ⟨rfl, rfl⟩ fun _ => rfl
    · have := sees_lt (get_sees hk)
      have h2 : lo L (L.p q) ≤ k := hk2
      have h3 : k < lo L (L.p q) := this
      omega
    · have := sees_lt (get_sees hk)
      have h2 : lo L (L.p q) ≤ k := hk2
      have h3 : k < lo L (L.p q) := this
      omega
  have hsg : rStep P call g (aEnvT (touch ops o) (L.t i)) o (L.v i) g := by
    rw [hop]
    simp only [aOp, hρ]
    have : aLoad P g ty (.pointer (some x)) = some (L.v i) := by
      rw [← hl]
      obtain ⟨xb, xo, xs⟩ := x
      cases xs with
      | some _ => rfl
      | none =>
        simp only [aLoad]
        rw [hgx, hg]
    rw [this]
  refine rStep_sound G.names G.ok Rg (sinv_env G I ho hi hb (fun k h1 _ => (hgN k).2 ⟨Nat.lt_of_lt_of_le h1.1 (G.mono (by omega) (by omega)), h1.2.1⟩)) hsg fun φ' κ' w' S ov => ?_
  obtain rfl : φ' = φ := funext fun k => (S.agr k (by omega)).1
  obtain rfl : κ' = κ := funext fun k => (S.agr k (by omega)).2
  exact hn w' (sinv_quiet G I ho hi hr (by omega) S.rel.below (fun k hk => by rw [iv_noload G ho hk] at hld; cases hld) hwi (ok_noAddr _ _ _ hnv))
theorem sil_step (G : Logged P call nt ops L W H0) (I : SInv ds nt ops L W H0 D q w0 φ κ a w) {i : Nat} {o : Oper} (ho : ops[i]? = some o) (hi : D i = false) (hr : ∀ e ∈ o.after, Region.binds .any e = true → D e.on = true) (hnb : ¬ effBar ops L i) (hb : ∀ j, before (masks [] ops.toList) j i = true → D j = true) (hq : i ≠ q)
    {k0 : Nat} {h' : AH} (hwk : wOK (masks [] ops.toList) i o (L.news i) = true) (hsn : stName (aEnvT (touch ops o) (L.t i)) o = some k0) (hsame : sameAt h' (L.lin (masks [] ops.toList) i) k0 = true) (hs : rStep P call (L.lin (masks [] ops.toList) i) (aEnvT (touch ops o) (L.t i)) o (L.v i) h') (hh : L.h (i + 1) = L.h i) (hwi : L.w i = none)
    {rd : Option Nat} {next : Act → World → Prop} {Q : Exit → Act → World → Prop} (hn : SInv ds nt ops L W H0 (upD D i) q w0 φ κ (a.put o.dst undef) w → next (a.put o.dst undef) w) : o.wpIn (fen rd) 0 P a w next Q := by
  have hlt : i < ops.size := (Array.getElem?_eq_some_iff.1 ho).1
  obtain ⟨hv0, hp, b, hg, hrun⟩ := rStep_sil hsn hs hsame
  have hlo : lo L (i + 1) = lo L i := by unfold lo; rw [hh]
  have hx : isLd o.op = false ∨ L.p q ≤ i := .inl (by
    have hsn' := hsn
    unfold stName at hsn'
    split at hsn'
    · rename_i he
      rw [he]
      rfl
    · cases hsn')
  obtain ⟨h1, h2, h3⟩ := read_place G I ho hi hp hnb hx hb
  have hvis : VisTo ops L H0 (lo L i) i k0 := by
    rw [← G.hin_sees (by omega) (lo L i) k0]
    exact get_sees hg
  have E0 : entOK φ κ (VisTo ops L H0 (lo L (i + 1)) i) w k0 (.cells b) := by
    rcases cur_at G I ho hi hp hnb hx hwk hb hvis (get_tr (h := L.lin (masks [] ops.toList) i) hg) with ⟨a3, a4⟩ | ⟨m, b1, b2, b3, b4⟩
    · refine (I.ent1 k0 _ a3 hvis.2.1 a4).move (fun x hx => ⟨by rw [hlo]; exact Nat.lt_of_lt_of_le hx.1 (G.mono h2 (by omega)), hx.2, fun m c1 c2 _ hv => ?_⟩) (fun _ _ => ⟨rfl, rfl⟩) ⟨rfl, rfl⟩ fun _ => rfl
      have := G.mono (i := L.p q) (j := m) (by omega) (by omega)
      have := hv.1
      have := hx.1
      omega
    · exact (I.ent2 m k0 _ b3 b4).move (fun x hx => vis_up G hlt b2 (G.mono (i := m + 1) (j := i + 1) (by omega) (by omega)) hx) (fun _ _ => ⟨rfl, rfl⟩) ⟨rfl, rfl⟩ (fun _ => rfl)
  refine hrun φ κ _ w a rd next Q (sinv_env G I ho hi hb fun k hk _ => ⟨by rw [hlo]; exact hk.1, hk.2⟩) E0 (hn ?_)
  have := sinv_quiet G I ho hi hr hq (Below.refl _ _) (fun k hk => by unfold inIv lo at hk; rw [hh] at hk; omega) hwi (by rw [hv0]; exact ok_undef)
  rw [hv0, ren_undef] at this
  exact this
end
end Go.Vm

/- VmP: A machine for closed runs, sixteenth part: the whole region. -/
namespace Go.Vm
open Go Go.RowKit

section
variable {P : Program} {call : CallR} {nt : Nat} {ops : Array Oper} {L : Log} {W : Nat} {H0 : List (Nat × Nat)}
variable {D : Nat → Bool} {q : Nat} {w0 w w' : World} {φ φ' : Nat → Nat × Nat} {κ κ' : Nat → Nat} {a : Act} {ds : List Deferred} {rd : Option Nat}

theorem next_bar (ops : Array Oper) (L : Log) : ∀ (d s : Nat), s + d = ops.size → ∃ q, s ≤ q ∧ q ≤ ops.size ∧ (∀ j, s ≤ j → j < q → ¬ effBar ops L j) ∧ (q < ops.size → effBar ops L q) := by
  intro d
  induction d with
  | zero => intro s h; exact ⟨s, Nat.le_refl _, by omega, fun j _ _ => by omega, fun _ => by omega⟩
  | succ d ih =>
    intro s h
    by_cases hb : effBar ops L s
    · exact ⟨s, Nat.le_refl _, by omega, fun j _ _ => by omega, fun _ => hb⟩
    · obtain ⟨q, h1, h2, h3, h4⟩ := ih (s + 1) (by omega)
      refine ⟨q, by omega, h2, fun j a b => ?_, h4⟩
      by_cases e : j = s
      · subst e; exact hb
      · exact h3 j (by omega) b

theorem bar_is (I : SInv ds nt ops L W H0 D q w0 φ κ a w) {i : Nat} (hlt : i < ops.size) (hbar : effBar ops L i) (hi : D i = false) (hb : ∀ j, before (masks [] ops.toList) j i = true → D j = true) : i = q := by
  rcases Nat.lt_trichotomy i q with h | h | h
  · rw [I.qlow i h hbar] at hi; cases hi
  · exact h
  · obtain ⟨b1, b2⟩ := I.qbar (by omega)
    obtain ⟨o, ho, _, _, hbo⟩ := hbar
    have hp : isPure o.op = false := bar_np hbo
    have := bar_before b1 ho hp (by omega) (fun h => by omega)
    rw [if_neg (by omega)] at this
    rw [hb q this] at b2
    cases b2

theorem bar_pure {i : Nat} {o : Oper} (ho : ops[i]? = some o) (hbar : effBar ops L i) : isPure o.op = false := by
  obtain ⟨o', ho', _, _, hbo⟩ := hbar
  obtain rfl := Option.some.inj (ho.symm.trans ho')
  exact bar_np hbo

theorem all_rel (G : Logged P call nt ops L W H0) (hb0 : ∀ p ∈ H0, p.2 ≤ (L.h 0).next) (I : SInv ds nt ops L W H0 D q w0 φ κ a w) (hdone : ∀ j k, j < q → Touch L j k → D j = true) : Rel w0 φ κ (L.h q) w := by
  have hlt := I.qle
  obtain ⟨c1, c2, c3⟩ := G.const q (by omega)
  have hN : ∀ k, (L.h q).N k ↔ k < lo L q ∧ outOk H0 k := fun k => by rw [N_iff, c2]
  have split : ∀ k ob, (L.h q).get k = some ob → Cur L H0 D q k ob := by
    intro k ob g
    obtain ⟨v1, v2⟩ := (hN k).1 (get_sees g)
    rcases Nat.lt_or_ge k (lo L (L.p q)) with h | h
    · exact .inl ⟨h, v2, (old_same G I.qle h q (G.p_le q hlt).1 (Nat.le_refl _) (get_tr g)).1⟩
    · obtain ⟨j, a1, a2, a3⟩ := inIv_find (G.p_le q (by omega)).1 h v1
      obtain ⟨m, b1, b2, b3, b4⟩ := last_touch a3 q a2
      refine .inr ⟨m, ⟨by omega, b2, hdone m k b2 b3, b3, fun m' d1 d2 _ => b4 m' d1 d2⟩, ?_⟩
      rw [← get_tr g]
      symm
      have hch := G.chunk (s := m + 1) (q := q) I.qle (fun x a b => no_bar G I.qle (by omega) (by omega)) q (by omega) (Nat.le_refl _)
      refine hch.2 k ?_ (fun x d1 d2 => b4 x (by omega) d2) fun x d1 d2 d3 => ?_
      · have := G.mono (i := j + 1) (j := m + 1) (by omega) (by omega)
        have := a3.2
        omega
      · have := kill_low G I.qle (j := x) (by omega) (by omega) d3
        omega
  refine ⟨I.below, fun p hp => ?_, ?_, fun k ob g => ?_, fun k ob g hr0 hk => ?_, fun k k' o1 o2 g1 g2 hr1 hr2 hk => ?_⟩
  · rw [c2] at hp
    exact Nat.le_trans (hb0 p hp) c3
  · rw [c1]
    exact Nat.le_trans G.le0 c3
  · rcases split k ob g with a2 | ⟨m, b1, b2⟩
    · exact (I.ent1 k ob a2.1 a2.2.1 a2.2.2).move (fun x hx => (hN x).2 ⟨Nat.lt_of_lt_of_le hx.1 (G.mono (G.p_le q (by omega)).1 (by omega)), hx.2⟩) (fun _ _ => ⟨rfl, rfl⟩) ⟨rfl, rfl⟩ fun _ => rfl
    · exact (I.ent2 m k ob b1 b2).move (fun x hx => (hN x).2 ⟨Nat.lt_of_lt_of_le hx.1 (G.mono (i := m + 1) (j := q) (by have := b1.2.1; omega) (by omega)), hx.2.1⟩) (fun _ _ => ⟨rfl, rfl⟩) ⟨rfl, rfl⟩ fun _ => rfl
  · rw [c1] at hk
    exact I.own k ob (split k ob g) hr0 hk
  · have dead : ∀ x y ox, (L.h q).get x = some ox → ¬ Killed L D q x y := by
      rintro x y ox g ⟨i, i1, i2, i3, i4, i5⟩
      exact (old_same G I.qle (kill_low G I.qle i1 i2 i4) q (G.p_le q hlt).1 (Nat.le_refl _) (get_tr g)).2 i i1 i2 i4
    intro he
    rcases I.inj k k' o1 o2 (split k o1 g1) (split k' o2 g2) hr1 hr2 (by rw [c1] at hk; exact hk) he with h | h | h
    · exact h
    · exact absurd h (dead k k' o1 g1)
    · exact absurd h (dead k' k o2 g2)

theorem bar_rel (G : Logged P call nt ops L W H0) (hb0 : ∀ p ∈ H0, p.2 ≤ (L.h 0).next) (I : SInv ds nt ops L W H0 D q w0 φ κ a w) (hlt : q < ops.size) (hb : ∀ j, before (masks [] ops.toList) j q = true → D j = true) : Rel w0 φ κ (L.h q) w := by
  refine all_rel G hb0 I fun j k a2 a3 => ?_
  have hoj := Array.getElem?_eq_getElem (xs := ops) (i := j) (by omega)
  have := bar_before (I.qbar hlt).1 hoj (touch_heap G hoj a3).1 (by omega) (fun _ => touch_noload G hoj a3)
  rw [if_pos a2] at this
  exact hb j this

theorem sinv_bar (G : Logged P call nt ops L W H0) (I : SInv ds nt ops L W H0 D q w0 φ κ a w) {o : Oper} (ho : ops[q]? = some o) (hlt : q < ops.size) (hr : ∀ e ∈ o.after, Region.binds .any e = true → D e.on = true) (hb : ∀ j, before (masks [] ops.toList) j q = true → D j = true)
    (S : Step w0 φ κ (L.h q) φ' κ' (L.h (q + 1)) w') (ov : okV (L.h (q + 1)).N κ' (L.v q)) : ∃ q', SInv ds nt ops L W H0 (upD D q) q' w0 φ' κ' (a.put o.dst (ren φ' κ' (L.v q))) w' := by
  obtain ⟨hbar, hDq⟩ := I.qbar hlt
  obtain ⟨q', n1, n2, n3, n4⟩ := next_bar ops L (ops.size - (q + 1)) (q + 1) (by omega)
  have hpq1 : L.p (q + 1) = q + 1 := by
    obtain ⟨_, _, _, hp, _⟩ := hbar
    exact hp
  have hch := G.chunk (s := q + 1) n2 n3 q' n1 (Nat.le_refl _)
  have hpq : L.p q' = q + 1 := hch.1.trans hpq1
  obtain ⟨c1, c2, c3⟩ := G.const (q + 1) (by omega)
  obtain ⟨d1, d2, d3⟩ := G.const q (by omega)
  have hN : ∀ k, (L.h (q + 1)).N k ↔ k < lo L (q + 1) ∧ outOk H0 k := fun k => by rw [N_iff, c2]
  have agr : ∀ k, ¬ inIv L q k → φ' k = φ k ∧ κ' k = κ k := fun k hk => S.agr k hk
  have avi : ∀ k, Av ops L D k → ¬ inIv L q k := fun k h => h q hlt hDq
  -- behind the parting operation none that looks at memory is done
  have later : ∀ j k, q + 1 ≤ j → j < ops.size → upD D q j = true → ¬ Touch L j k := by
    intro j k hj hjs hD hv
    have hoj := Array.getElem?_eq_getElem hjs
    have := bar_before hbar hoj (touch_heap G hoj hv).1 (by omega) (fun h => by omega)
    rw [if_neg (by omega)] at this
    unfold upD at hD
    rw [if_neg (by omega)] at hD
    have := I.closed.before G.slots j q hD this
    rw [hDq] at this
    cases this
  have hsrc : ∀ d v, valOf ops L D d ops.size = some v → ren φ' κ' v = ren φ κ v := by
    intro d v e
    rcases valOf_src (ops := ops) (L := L) (D := D) (d := d) ops.size with h | ⟨j, hj, hDj, _, h⟩
    · rw [h] at e
      exact ren_congr (fun k hk => agr k (fun hv => by
        have := hv.1
        have := hk.1
        omega)) _ (I.t0ok d v e)
    · rw [h] at e
      injection e with e
      subst e
      exact ren_congr (fun k hk => agr k (avi k hk.2)) _ (I.vok j hj hDj)
  have no2 : ∀ m k, ¬ LastT L (upD D q) q' m k := by
    rintro m k ⟨h1, h2, h3, h4, _⟩
    exact later m k (by omega) (by omega) h3 h4
  have get1 : ∀ k ob, Cur L H0 (upD D q) q' k ob → (L.h (q + 1)).get k = some ob := by
    rintro k ob (⟨h1, h2, g⟩ | ⟨m, h1, _⟩)
    · rw [hpq] at h1
      unfold AH.get
      have hs : (L.h (q + 1)).sees k = true := (hN k).2 ⟨h1, h2⟩
      rw [if_pos hs]
      rw [← hpq]
      exact g
    · exact absurd h1 (no2 m k)
  refine ⟨q', n2, fun j hj hbj => ?_, fun h => ⟨n4 h, ?_⟩, upD_closed I.closed ho hr, S.rel.below, (put_defers _ _).trans I.defers, (put_size _ _).trans I.size, tm_put G I.closed ho hDq I.size (fun d v hd => by rw [hsrc d v hd]; exact I.tm d v hd), fun d v hd0 => ?_, fun j hj hD => ?_, fun k ob k1 k2 g => ?_, fun m k ob k1 _ => ?_, fun k ob k1 hr0 hk => ?_, fun k k' o1 o2 k1 k2 hr1 hr2 hk0 he => ?_⟩
  · rcases Nat.lt_trichotomy j q with h | h | h
    · exact upD_le (I.qlow j h hbj)
    · subst h; exact upD_self _
    · exact absurd hbj (n3 j (by omega) hj)
  · unfold upD
    rw [if_neg (by omega)]
    cases hD : D q' with
    | false => rfl
    | true =>
      have hbq' := n4 h
      have hoq' := Array.getElem?_eq_getElem h
      have := bar_before hbar hoq' (bar_pure hoq' hbq') (by omega) (fun h => by omega)
      rw [if_neg (by omega)] at this
      have := I.closed.before G.slots q' q hD this
      rw [hDq] at this
      cases this
  · refine ok_mono (fun _ h => h) (fun k hk => (agr k fun hv => ?_).2) _ (I.t0ok d v hd0)
    have := hv.1
    have := hk.1
    omega
  · by_cases e : j = q
    · subst e
      refine ok_mono (fun k hk => ?_) (fun _ _ => rfl) _ ov
      obtain ⟨k1, k2⟩ := (hN k).1 hk
      have hno : ∀ m, m < ops.size → m ≠ j → (before (masks [] ops.toList) m j = false) → ¬ inIv L m k := by
        intro m hm hne hbf hv
        have hom := Array.getElem?_eq_getElem hm
        have := bar_before hbar hom (iv_heap G hom hv).1 hne (fun _ => iv_noload G hom hv)
        split at this
        · rw [hbf] at this; cases this
        · have := G.mono (i := j + 1) (j := m) (by omega) (by omega)
          have := hv.1
          omega
      refine ⟨⟨k1, k2, fun m a1 a2 a3 => hno m (by omega) (by omega) a3⟩, fun m hm hD' => ?_⟩
      obtain ⟨e1, e2⟩ := upD_false hD'
      refine hno m hm e1 ?_
      cases h : before (masks [] ops.toList) m j with
      | false => rfl
      | true => rw [hb m h] at e2; cases e2
    · unfold upD at hD
      rw [if_neg e] at hD
      exact ok_mono (fun k hk => ⟨hk.1, Av_up hk.2⟩) (fun k hk => (agr k (avi k hk.2)).2) _ (I.vok j hj hD)
  · have g1 := get1 k ob (.inl ⟨k1, k2, g⟩)
    exact (S.rel.ent k ob g1).move (fun x hx => by rw [hpq]; exact (hN x).1 hx) (fun _ _ => ⟨rfl, rfl⟩) ⟨rfl, rfl⟩ fun _ => rfl
  · exact absurd k1 (no2 m k)
  · exact S.rel.own k ob (get1 k ob k1) hr0 (by rw [c1]; exact hk)
  · exact .inl (S.rel.inj k k' o1 o2 (get1 k o1 k1) (get1 k' o2 k2) hr1 hr2 (by rw [c1]; exact hk0) he)

/- how many are undone -/
def undone (ops : Array Oper) (listed : Array Bool) : Nat := ((List.range ops.size).filter fun i => !listed.getD i false).length

theorem getD_set {listed : Array Bool} {i : Nat} (hi : i < listed.size) (j : Nat) : (listed.setIfInBounds i true).getD j false = upD (fun j => listed.getD j false) i j := by
  unfold upD
  simp only [Array.getD_eq_getD_getElem?]
  by_cases e : j = i
  · subst e
    rw [if_pos rfl, Array.getElem?_setIfInBounds_self_of_lt hi]
    rfl
  · rw [if_neg e, Array.getElem?_setIfInBounds_ne (fun h => e h.symm)]

theorem filter_lt {α : Type} (p p' : α → Bool) : ∀ (l : List α), (∀ x, p' x = true → p x = true) → (∃ x ∈ l, p x = true ∧ p' x = false) → (l.filter p').length < (l.filter p).length := by
  intro l
  induction l with
  | nil => rintro _ ⟨x, hx, _⟩; cases hx
  | cons y r ih =>
    intro h ⟨x, hx, h1, h2⟩
    have hle : (r.filter p').length ≤ (r.filter p).length := by
      clear ih h1 h2 hx
      induction r with
      | nil => simp
      | cons z r ih => 
        by_cases hz : p' z = true
        · rw [List.filter_cons_of_pos hz, List.filter_cons_of_pos (h z hz)]; simpa using ih
        · rw [List.filter_cons_of_neg hz]
          by_cases hz2 : p z = true
          · rw [List.filter_cons_of_pos hz2]; simp; omega
          · rw [List.filter_cons_of_neg hz2]; exact ih
    rcases List.mem_cons.1 hx with e | e
    · subst e
      rw [List.filter_cons_of_pos h1, List.filter_cons_of_neg (by rw [h2]; simp)]
      simp
      omega
    · have := ih h ⟨x, e, h1, h2⟩
      by_cases hz : p' y = true
      · rw [List.filter_cons_of_pos hz, List.filter_cons_of_pos (h y hz)]; simpa using this
      · rw [List.filter_cons_of_neg hz]
        by_cases hz2 : p y = true
        · rw [List.filter_cons_of_pos hz2]; simp; omega
        · rw [List.filter_cons_of_neg hz2]; exact this

theorem ready_all (hs : slotsOk ops (masks [] ops.toList) = true) {listed : Array Bool} (hsz : listed.size = ops.size) (h : Region.ready .any ops listed = []) : ∀ i, i < ops.size → listed.getD i false = true := by
  intro i
  induction i using Nat.strongRecOn with
  | _ i ih =>
    intro hi
    cases hD : listed.getD i false with
    | true => rfl
    | false =>
      have hm : i ∈ Region.ready .any ops listed := by
        refine mem_ready.2 ⟨?_, _, Array.getElem?_eq_getElem hi, fun e he hb => ?_⟩
        · rw [Array.getD_eq_getD_getElem?] at hD ⊢
          rw [Array.getElem?_eq_getElem (by omega)] at hD ⊢
          exact hD
        · have := slots_edges hs (Array.getElem?_eq_getElem hi) he hb
          exact ih e.on this (by omega)
      rw [h] at hm
      cases hm

theorem region_any (G : Logged P call nt ops L W H0) (hb0 : ∀ p ∈ H0, p.2 ≤ (L.h 0).next) (φ0 : Nat → Nat × Nat) (κ0 : Nat → Nat) {Q : Exit → Act → World → Prop}
    (hQ : ∀ φ κ a w D, SInv ds nt ops L W H0 D ops.size w0 φ κ a w → Agree (lo L 0) (lo L ops.size) φ0 κ0 φ κ → (∀ i, i < ops.size → D i = true) → Q .normal a w) :
    ∀ (fuel : Nat) (listed : Array Bool) (a : Act) (w : World), listed.size = ops.size → undone ops listed ≤ fuel → (∃ q φ κ, SInv ds nt ops L W H0 (fun j => listed.getD j false) q w0 φ κ a w ∧ Agree (lo L 0) (lo L ops.size) φ0 κ0 φ κ) → wpAnyIn (fen rd) 0 P .any ops Q fuel listed a w := by
  have fin : ∀ (listed : Array Bool) (a : Act) (w : World), (∃ q φ κ, SInv ds nt ops L W H0 (fun j => listed.getD j false) q w0 φ κ a w ∧ Agree (lo L 0) (lo L ops.size) φ0 κ0 φ κ) → (∀ i, i < ops.size → listed.getD i false = true) → Q .normal a w := by
    rintro listed a w ⟨q, φ, κ, I, ag⟩ hall
    have hq : q = ops.size := by
      rcases Nat.lt_or_ge q ops.size with h | h
      · have := (I.qbar h).2
        rw [hall q h] at this
        cases this
      · have := I.qle; omega
    subst hq
    exact hQ φ κ a w _ I ag hall
  intro fuel
  induction fuel with
  | zero =>
    intro listed a w hsz hu hI
    have hall : ∀ i, i < ops.size → listed.getD i false = true := by
      intro i hi
      cases h : listed.getD i false with
      | true => rfl
      | false =>
        have : i ∈ (List.range ops.size).filter fun i => !listed.getD i false := List.mem_filter.2 ⟨List.mem_range.2 hi, by rw [h]; rfl⟩
        unfold undone at hu
        have hpos := List.length_pos_of_mem this
        omega
    refine ⟨?_, fin listed a w hI hall⟩
    refine List.eq_nil_iff_forall_not_mem.2 fun i hi => ?_
    obtain ⟨h1, o, h2, _⟩ := mem_ready.1 hi
    have hlt := (Array.getElem?_eq_some_iff.1 h2).1
    have h3 := hall i hlt
    rw [Array.getD_eq_getD_getElem?, Array.getElem?_eq_getElem (by omega)] at h1 h3
    simp only [Option.getD_some] at h1 h3
    rw [h1] at h3
    cases h3
  | succ fuel ih =>
    intro listed a w hsz hu hI
    refine ⟨fun hr => fin listed a w hI (ready_all G.slots hsz hr), fun i hi => ?_⟩
    obtain ⟨hl, o, ho, hr⟩ := mem_ready.1 hi
    have hlt := (Array.getElem?_eq_some_iff.1 ho).1
    have hD : listed.getD i false = false := by
      rw [Array.getD_eq_getD_getElem?, Array.getElem?_eq_getElem (by omega)] at hl ⊢
      exact hl
    have hfun : (fun j => (listed.setIfInBounds i true).getD j false) = upD (fun j => listed.getD j false) i := funext fun j => getD_set (by omega) j
    have hund : undone ops (listed.setIfInBounds i true) ≤ fuel := by
      have : undone ops (listed.setIfInBounds i true) < undone ops listed := by
        unfold undone
        refine filter_lt _ _ _ (fun x hx => ?_) ⟨i, List.mem_range.2 hlt, by rw [hD]; rfl, ?_⟩
        · rw [getD_set (by omega)] at hx
          simp only [Bool.not_eq_true'] at hx ⊢
          exact (upD_false hx).2
        · rw [getD_set (by omega), upD_self]; rfl
      omega
    have next : ∀ (a' : Act) (w' : World), (∃ q φ κ, SInv ds nt ops L W H0 (upD (fun j => listed.getD j false) i) q w0 φ κ a' w' ∧ Agree (lo L 0) (lo L ops.size) φ0 κ0 φ κ) → wpAnyIn (fen rd) 0 P .any ops Q fuel (listed.setIfInBounds i true) a' w' := by
      intro a' w' h
      exact ih _ a' w' (by simpa using hsz) hund (by rw [hfun]; exact h)
    obtain ⟨q, φ, κ, I, ag⟩ := hI
    have agree : ∀ (φ' : Nat → Nat × Nat) (κ' : Nat → Nat), Agree (lo L i) (lo L (i + 1)) φ κ φ' κ' → Agree (lo L 0) (lo L ops.size) φ0 κ0 φ' κ' := by
      intro φ' κ' h k hk
      have h1 := ag k hk
      have m1 := (G.const i (by omega)).2.2
      have m2 := G.mono (i := i + 1) (j := ops.size) (by omega) (by omega)
      have h2 := h k (by omega)
      exact ⟨h2.1.trans h1.1, h2.2.trans h1.2⟩
    have hb : ∀ j, before (masks [] ops.toList) j i = true → (fun j => listed.getD j false) j = true := by
      intro j hj
      obtain ⟨o', ho', e, he, hbi, h⟩ := (before_iff G.slots).1 hj
      obtain rfl := Option.some.inj (ho.symm.trans ho')
      have hd := hr e he hbi
      rcases h with h | h
      · rw [← h]; exact hd
      · exact I.closed.before G.slots e.on j hd h
    unfold wpOpIn
    simp only [ho]
    cases G.at_ i o ho with
    | skip hw hv ht hh hp hwi =>
      rw [sinv_want G I ho hD hb hw]
      simp only [Bool.false_eq_true, if_false]
      have hnb : ¬ effBar ops L i := by
        rintro ⟨o', ho', hw', _⟩
        obtain rfl := Option.some.inj (ho.symm.trans ho')
        rw [hw] at hw'
        cases hw'
      have hq : i ≠ q := fun e => by
        subst e
        exact hnb (I.qbar hlt).1
      have := sinv_quiet G I ho hD hr hq (Below.refl _ _) (fun k hk => by have := (iv_heap G ho hk).2; rw [hw] at this; cases this) hwi (by rw [hv]; exact ok_undef)
      rw [hv, ren_undef] at this
      exact ⟨fun f _ => fen_fn rd f, next _ _ ⟨q, φ, κ, this, ag⟩⟩
    | bar hw hbo hs ht hp =>
      rw [sinv_want G I ho hD hb hw]
      simp only [if_true]
      have hbar : effBar ops L i := ⟨o, ho, hw, hp, hbo⟩
      have hiq := bar_is I hlt hbar hD hb
      subst hiq
      have R := bar_rel G hb0 I hlt hb
      obtain ⟨_, c2, _⟩ := G.const i (by omega)
      refine rStep_sound G.names G.ok R (sinv_env G I ho hD hb (fun k h1 _ => (N_iff k).2 ⟨h1.1, by rw [c2]; exact h1.2.1⟩)) hs fun φ' κ' w' S ov => ?_
      obtain ⟨q', I'⟩ := sinv_bar G I ho hlt hr hb S ov
      exact next _ _ ⟨q', φ', κ', I', agree _ _ S.agr⟩
    | sil hw hbo hwk k hsn h' hsame hs ht hh hp hwi =>
      rw [sinv_want G I ho hD hb hw]
      simp only [if_true]
      have hnb : ¬ effBar ops L i := by
        rintro ⟨_, _, _, hb', _⟩
        have := (G.p_le i (by omega)).1
        omega
      have hq : i ≠ q := fun e => by
        subst e
        exact hnb (I.qbar hlt).1
      exact sil_step G I ho hD hr hnb hb hq hwk hsn hsame hs hh hwi fun I' => next _ _ ⟨q, φ, κ, I', ag⟩
    | kil hw hbo hwk k hkn hold h' hx hs ht hh hp hwi =>
      rw [sinv_want G I ho hD hb hw]
      simp only [if_true]
      have hnb : ¬ effBar ops L i := by
        rintro ⟨_, _, _, hb', _⟩
        have := (G.p_le i (by omega)).1
        omega
      exact kil_step G hb0 I ho hD hr hnb hb hwk hkn hx hs hh hwi fun φ' κ' w' I' ag' => next _ _ ⟨q, φ', κ', I', agree _ _ ag'⟩
    | lst hw hbo hwk k hsn hl h' hs ht hh hp hwi =>
      rw [sinv_want G I ho hD hb hw]
      simp only [if_true]
      have hnb : ¬ effBar ops L i := by
        rintro ⟨_, _, _, hb', _⟩
        have := (G.p_le i (by omega)).1
        omega
      exact lst_step G I ho hD hr hnb hb hwi fun w' I' => next _ _ ⟨q, φ, κ, I', ag⟩
    | read hw hbo hwk h' hs ht hh hp hwi =>
      rw [sinv_want G I ho hD hb hw]
      simp only [if_true]
      have hnb : ¬ effBar ops L i := by
        rintro ⟨_, _, _, hb', _⟩
        have := (G.p_le i (by omega)).1
        omega
      cases hpu : isPure o.op with
      | true =>
        have hq : i ≠ q := fun e => by
          subst e
          exact hnb (I.qbar hlt).1
        obtain ⟨e1, e2⟩ := rStep_pure hpu hs
        -- an empty memory does as well
        obtain ⟨_, c2, c3⟩ := G.const i (by omega)
        let g : AH := ⟨.leaf, lo L i, 0, (L.hin (masks [] ops.toList) i).hid ++ ((List.range i).filter fun m => !listed.getD m false).map fun m => (lo L m, lo L (m + 1))⟩
        have hgN : ∀ k, g.N k ↔ VisTo ops L H0 (lo L i) i k ∧ ∀ m, m < i → listed.getD m false = false → ¬ inIv L m k := by
          intro k
          rw [N_iff, ← G.hin_sees (by omega) (lo L i) k, sees_iff]
          unfold outOk
          constructor
          · rintro ⟨h1, h2⟩
            refine ⟨⟨h1, fun p hp => h2 p (List.mem_append_left _ hp)⟩, fun m hm hd => ?_⟩
            exact h2 (lo L m, lo L (m + 1)) (List.mem_append_right _ (List.mem_map.2 ⟨m, List.mem_filter.2 ⟨List.mem_range.2 hm, by rw [hd]; rfl⟩, rfl⟩))
          · rintro ⟨⟨h1, h2⟩, h3⟩
            refine ⟨h1, fun p hp => ?_⟩
            rcases List.mem_append.1 hp with hp | hp
            · exact h2 p hp
            · obtain ⟨m, hm, rfl⟩ := List.mem_map.1 hp
              obtain ⟨hm1, hm2⟩ := List.mem_filter.1 hm
              exact h3 m (List.mem_range.1 hm1) (by simpa using hm2)
        have Rg : Rel w φ κ g w := by
          refine ⟨Below.refl _ _, fun p hp => ?_, Nat.zero_le _, fun k ob hg => ?_, fun k ob hg => ?_, fun k k' o1 o2 hg => ?_⟩
          · show p.2 ≤ lo L i
            rcases List.mem_append.1 hp with hp | hp
            · rcases List.mem_append.1 hp with hp | hp
              · rw [c2] at hp
                exact Nat.le_trans (hb0 p hp) c3
              · obtain ⟨x, hx, rfl⟩ := List.mem_map.1 hp
                obtain ⟨hx1, hx2⟩ := List.mem_filter.1 hx
                obtain ⟨m, hm, rfl⟩ := List.mem_map.1 hx1
                have hm' := List.mem_range'_1.1 (List.mem_reverse.1 hm)
                simp only [Bool.and_eq_true, decide_eq_true_eq] at hx2
                obtain ⟨_, he⟩ := Log.ne_lt hx2.1
                rw [he]
                exact G.mono (i := m + 1) (j := i) (by omega) (by omega)
            · obtain ⟨m, hm, rfl⟩ := List.mem_map.1 hp
              have := List.mem_range.1 (List.mem_filter.1 hm).1
              exact G.mono (i := m + 1) (j := i) (by omega) (by omega)
          all_goals (have := get_tr hg; cases this)
        have hsg := e2 g
        refine rStep_sound G.names G.ok Rg (sinv_env G I ho hD hb (fun k h1 h2 => (hgN k).2 ⟨h1, fun m hm hd => h2 m (by omega) hd⟩)) hsg fun φ' κ' w' S ov => ?_
        have hno : ∀ k, ¬ inIv L i k := fun k hk => by have := (iv_heap G ho hk).1; rw [hpu] at this; cases this
        obtain rfl : φ' = φ := funext fun k => (S.agr k (by omega)).1
        obtain rfl : κ' = κ := funext fun k => (S.agr k (by omega)).2
        refine next _ _ ⟨q, _, _, sinv_quiet G I ho hD hr hq S.rel.below hno hwi (ok_mono (fun k hk => ?_) (fun _ _ => rfl) _ ov), ag⟩
        obtain ⟨k1, k2⟩ := (hgN k).1 hk
        have hlo := G.mono (i := i) (j := i + 1) (by omega) (by omega)
        refine ⟨⟨Nat.lt_of_lt_of_le k1.1 hlo, k1.2⟩, fun m hm hd hv => ?_⟩
        obtain ⟨e1, e2⟩ := upD_false hd
        rcases Nat.lt_or_ge m i with h | h
        · exact k2 m h e2 hv
        · have := G.mono (i := i + 1) (j := m) (by omega) (by omega)
          have := hv.1
          have := k1.1
          omega
      | false =>
        by_cases hx : isLd o.op = false ∨ L.p q ≤ i
        rotate_left
        · have hx1 : isLd o.op = true := by
            cases h : isLd o.op with
            | true => rfl
            | false => exact absurd (.inl h) hx
          exact late_step G hb0 I ho hD hr hpu hnb hwi hx1 (by
            rcases Nat.lt_or_ge i (L.p q) with h | h
            · exact h
            · exact absurd (.inr h) hx) hb hs fun w' I' => next _ _ ⟨q, φ, κ, I', ag⟩
        have R := read_rel G hb0 I ho hD hpu hnb hx hwk hb
        refine rStep_sound G.names G.ok R (sinv_env G I ho hD hb (fun k h1 _ => (G.hin_sees (by omega) (lo L i) k).2 h1)) hs fun φ' κ' w' S ov => ?_
        have hnx : h'.next = lo L (i + 1) := by unfold lo; rw [hh]
        have sagr := S.agr
        rw [hnx] at sagr
        exact next _ _ ⟨q, φ', κ', sinv_read G hb0 I ho hD hr hpu hnb hx hwi hb hh S ov, agree _ _ sagr⟩
end
end Go.Vm

/- VmQ: A machine for closed runs, seventeenth part: code, calls, and what a run proves. -/
namespace Go.Vm
open Go Go.RowKit

section
variable {P : Program} {nt : Nat} {ops : Array Oper}
variable {w0 w w' : World} {φ φ' : Nat → Nat × Nat} {κ κ' : Nat → Nat} {a : Act} {h h' : AH} {t t' : Tr Value} {ds : List Deferred} {rd : Option Nat}

/- a region that draws its order, calls being a relation -/
def rRegion (P : Program) (C : CallR) (nt : Nat) (ops : Array Oper) (t : Tr Value) (h : AH) (t' : Tr Value) (h' : AH) : Prop :=
  slotsOk ops (masks [] ops.toList) = true ∧ rDraw P C nt ops (masks [] ops.toList) 0 ops.toList t h [] t' h'
theorem rRegion_of {call : CallF} (e : aRegion P call nt ops t h = some (t', h')) : rRegion P call.rel nt ops t h t' h' := by
  unfold aRegion at e
  simp only at e
  split at e
  · rename_i hs
    exact ⟨hs, rDraw_of _ _ _ _ _ _ _ e⟩
  · cases e

theorem rDraw_grow {call : CallR} (C : CallOk P call) (nm : namesOk P = true) (hs : slotsOk ops (masks [] ops.toList) = true) (hw : h.wlim ≤ h.next) (e : rDraw P call nt ops (masks [] ops.toList) 0 ops.toList t h [] t' h') :
    ∃ L : Log, Logged P call nt ops L h.wlim h.hid ∧ L.t 0 = t ∧ L.h 0 = h ∧ L.t ops.size = t' ∧ L.h ops.size = h' := by
  let L0 : Log := ⟨fun _ => t, fun _ => h, fun _ => undef, fun _ => 0, fun _ => none⟩
  obtain ⟨L, q1, q2, q3, q4, q5, q6⟩ := aDraw_log ops.toList 0 t h [] t' h' L0 e rfl rfl rfl (Nat.le_refl _)
  obtain ⟨a1, a2, a3⟩ := q1 0 (Nat.le_refl _)
  refine ⟨L, ⟨C, nm, hs, fun j o ho => ?_, a3, by rw [a2], by rw [a2], by rw [a2]; exact hw⟩, a1, a2, by simpa using q3, by simpa using q4⟩
  have := q5 j o (by simpa using ho)
  simpa using this

theorem rRegion_grow {call : CallR} (C : CallOk P call) (nm : namesOk P = true) (hw : h.wlim ≤ h.next) (e : rRegion P call nt ops t h t' h') : Grow h h' := by
  obtain ⟨hs, e⟩ := e
  · obtain ⟨L, G, rfl, rfl, rfl, rfl⟩ := rDraw_grow C nm hs hw e
    obtain ⟨c1, c2, c3⟩ := G.const ops.size (Nat.le_refl _)
    refine ⟨c3, c2, c1, fun k hk => ?_⟩
    have key : ∀ m, m ≤ ops.size → (L.h m).tr.get k = (L.h 0).tr.get k := by
      intro m
      induction m with
      | zero => intro _; rfl
      | succ m ih =>
        intro hm
        rw [← ih (by omega)]
        obtain ⟨d1, d2, d3⟩ := G.const m (by omega)
        cases G.at_ m _ (Array.getElem?_eq_getElem (by omega)) with
        | skip hw' hv ht hh' hp => rw [hh']
        | sil hw' hb hk k hsn h1 hsame hs' ht hh' hp => rw [hh']
        | kil hw' hb hwk k' hkn hold h1 hx hs' ht hh' hp =>
          have g := rStep_grow C (h := L.lin _ m) (by rw [show (L.lin (masks [] ops.toList) m).wlim = (L.h 0).wlim from d1]; exact Nat.le_trans hw d3) hs'
          rw [hh']
          exact g.keep k (by rw [show (L.lin (masks [] ops.toList) m).wlim = (L.h 0).wlim from d1]; exact hk)
        | bar hw' hb hs' ht hp => exact (rStep_grow C (by rw [d1]; exact Nat.le_trans hw d3) hs').keep k (by rw [d1]; exact hk)
        | lst hw' hb hwk k' hsn hl h1 hs' ht hh' hp =>
          have g := rStep_grow C (h := L.lin _ m) (by rw [show (L.lin (masks [] ops.toList) m).wlim = (L.h 0).wlim from d1]; exact Nat.le_trans hw d3) hs'
          rw [hh']
          exact g.keep k (by rw [show (L.lin (masks [] ops.toList) m).wlim = (L.h 0).wlim from d1]; exact hk)
        | read hw' hb hwk h1 hs' ht hh' hp =>
          have g := rStep_grow C (h := L.hin _ m) (Nat.le_refl _) hs'
          rw [hh']
          refine g.keep k ?_
          show k < lo L m
          have : (L.h 0).wlim ≤ lo L 0 := hw
          omega
    exact key ops.size (Nat.le_refl _)

theorem rRegion_sound {call : CallR} (hm : P.follows .mixedOrders = true) (nm : namesOk P = true) (C : CallOk P call) {id : Nat} {Q : Exit → Act → World → Prop} (e : rRegion P call nt ops t h t' h')
    (R : Rel w0 φ κ h w) (A : ARel φ κ h.N nt t ds a) (hq : ∀ φ' κ' w' a', Step w0 φ κ h φ' κ' h' w' → ARel φ' κ' h'.N nt t' ds a' → Q .normal a' w') : (Code.region id ops true).wpIn (fen rd) 0 P Q a w := by
  have hgrow := rRegion_grow C nm R.wl e
  obtain ⟨hs, e⟩ := e
  · obtain ⟨L, G, rfl, rfl, rfl, rfl⟩ := rDraw_grow C nm hs R.wl e
    have R1 := R.drawn (w.drawn + 1)
    refine wpIn_region_any hm ?_
    refine region_any (ds := ds) G R.hid φ κ ?_ ops.size _ _ _ (by simp) ?_ ?_ (w0 := w0)
    · intro φ' κ' a' w' D I ag hall
      have hRel := all_rel G R.hid I (fun j k hj _ => hall j hj)
      obtain ⟨c1, c2, c3⟩ := G.const ops.size (Nat.le_refl _)
      refine hq φ' κ' w' a' ⟨ag, hRel, hgrow.next, hgrow.hid, hgrow.wlim, hgrow.keep⟩ ⟨I.defers, I.size, fun d v hd => ?_, fun d v hd => ?_⟩
      · rw [G.text d ops.size (Nat.le_refl _)] at hd
        refine I.tm d v ?_
        rw [← hd]
        have : ∀ m, m ≤ ops.size → valOf ops L D d m = valOf ops L (fun _ => true) d m := by
          intro m
          induction m with
          | zero => intro _; rfl
          | succ m ih => intro hm'; simp only [valOf, hall m (by omega), ih (by omega)]
        exact this ops.size (Nat.le_refl _)
      · rw [G.text d ops.size (Nat.le_refl _)] at hd
        have hN : ∀ k, (L.h ops.size).N k ↔ k < lo L ops.size ∧ outOk (L.h 0).hid k := fun k => by rw [N_iff, c2]
        rcases valOf_src (ops := ops) (L := L) (D := fun _ => true) (d := d) ops.size with h | ⟨j, hj, _, _, h⟩
        · rw [h] at hd
          exact ok_mono (fun k hk => (hN k).2 ⟨Nat.lt_of_lt_of_le hk.1 c3, hk.2⟩) (fun _ _ => rfl) _ (I.t0ok d v hd)
        · rw [h] at hd
          injection hd with hd
          subst hd
          exact ok_mono (fun k hk => (hN k).2 ⟨Nat.lt_of_lt_of_le hk.1.1 (G.mono (by omega) (by omega)), hk.1.2.1⟩) (fun _ _ => rfl) _ (I.vok j hj (hall j hj))
    · unfold undone
      exact Nat.le_trans (List.length_filter_le _ _) (by simp)
    · obtain ⟨q, n1, n2, n3, n4⟩ := next_bar ops L ops.size 0 (by omega)
      have hch := G.chunk (s := 0) n2 n3 q n1 (Nat.le_refl _)
      have hpq : L.p q = 0 := hch.1.trans G.p0
      have hN : ∀ k, (L.h 0).N k ↔ k < lo L 0 ∧ outOk (L.h 0).hid k := fun k => N_iff k
      have hfalse : ∀ j, (Array.replicate ops.size false).getD j false = false := by
        intro j
        rw [Array.getD_eq_getD_getElem?, Array.getElem?_replicate]
        split <;> rfl
      have no2 : ∀ m k, ¬ LastT L (fun j => (Array.replicate ops.size false).getD j false) q m k := by
        rintro m k ⟨_, _, h3, _⟩
        exact absurd ((hfalse m).symm.trans h3) (by simp)
      have hget : ∀ k ob, k < lo L 0 → outOk (L.h 0).hid k → (L.h (L.p q)).tr.get k = some ob → (L.h 0).get k = some ob := by
        intro k ob h1 h2 g
        have hs' : (L.h 0).sees k = true := (hN k).2 ⟨h1, h2⟩
        unfold AH.get
        rw [if_pos hs', ← hpq]
        exact g
      have hcur : ∀ k ob, Cur L (L.h 0).hid (fun j => (Array.replicate ops.size false).getD j false) q k ob → (L.h 0).get k = some ob := by
        rintro k ob (⟨h1, h2, g⟩ | ⟨m, h1, _⟩)
        · rw [hpq] at h1; exact hget k ob h1 h2 g
        · exact absurd h1 (no2 m k)
      have hval : ∀ d m, valOf ops L (fun j => (Array.replicate ops.size false).getD j false) d m = (L.t 0).get d := by
        intro d m
        induction m with
        | zero => rfl
        | succ m ih =>
          simp only [valOf]
          rw [if_neg (fun hc => absurd ((hfalse m).symm.trans hc.1) (by simp))]
          exact ih
      refine ⟨q, φ, κ, ⟨n2, fun j hj hb => absurd hb (n3 j (Nat.zero_le _) hj), fun h => ⟨n4 h, hfalse q⟩, fun i o _ hD => ?_, R1.below, A.defers, A.size, fun d v hd => ?_, fun d v hd => ?_, fun j _ hD => ?_, fun k ob k1 k2 g => ?_, fun m k ob k1 => ?_, fun k ob k1 hr0 hk => ?_, fun k k' o1 o2 k1 k2 hr1 hr2 hk => ?_⟩, fun k _ => ⟨rfl, rfl⟩⟩
      · exact absurd ((hfalse i).symm.trans hD) (by simp)
      · rw [hval] at hd; exact A.get d v hd
      · exact ok_mono (fun k hk => (hN k).1 hk) (fun _ _ => rfl) _ (A.ok d v hd)
      · exact absurd ((hfalse j).symm.trans hD) (by simp)
      · rw [hpq] at k1
        exact (R1.ent k ob (hget k ob k1 k2 g)).move (fun x hx => by rw [hpq]; exact (hN x).1 hx) (fun _ _ => ⟨rfl, rfl⟩) ⟨rfl, rfl⟩ fun _ => rfl
      · exact absurd k1 (no2 m k)
      · exact R1.own k ob (hcur k ob k1) hr0 hk
      · exact fun he => .inl (R1.inj k k' o1 o2 (hcur k o1 k1) (hcur k' o2 k2) hr1 hr2 hk he)
end

inductive AEx where
  | normal
  | exit (id : Nat)
  | ret
def AEx.toExit : AEx → Exit
  | .normal => .normal
  | .exit id => .exit id
  | .ret => .ret
def AEx.jump : AEx → Option Code
  | .normal => none
  | .exit id => some (.exit id)
  | .ret => some .ret
def jumpEx : Option Code → Option AEx
  | none => some .normal
  | some .ret => some .ret
  | some (.exit id) => some (.exit id)
  | some _ => none

def markD (φ : Nat → Nat × Nat) (m : Nat) : Deferred := { target := .collected (φ m).1, args := #[] }

/- the record of a loop over a function: the block for its rounds' deferred calls, the marks, memory behind it -/
def aEnter (rd : Option Nat) (ms : List Nat) (h : AH) : Option (Nat × List Nat × AH) :=
  match rd with
  | none => some (h.next, h.next :: ms, h.new (.deferred true))
  | some l => match h.get l with
    | some (.loop r) => some (r.defers, ms, h)
    | _ => none

def aCode (P : Program) (call : CallF) (nt : Nat) (rd : Option Nat) : Nat → Code → Tr Value → List Nat → AH → Option (AEx × Tr Value × List Nat × AH)
  | 0, _, _, _, _ => none
  | _ + 1, .skip, t, ms, h => some (.normal, t, ms, h)
  | _ + 1, .region _ ops d, t, ms, h =>
    match (if d then aRegion P call nt ops t h else aRow P call nt ops ops.toList t h) with
    | some (t', h') => some (.normal, t', ms, h')
    | none => none
  | n + 1, .seq x y, t, ms, h =>
    match aCode P call nt rd n x t ms h with
    | some (.normal, t', ms', h') => aCode P call nt rd n y t' ms' h'
    | r => r
  | n + 1, .cond c x y, t, ms, h =>
    match aEnv t c with
    | some (.bool b) => aCode P call nt rd n (if b then x else y) t ms h
    | _ => none
  | n + 1, .block id c, t, ms, h =>
    match aCode P call nt rd n c t ms h with
    | some (.exit id', t', ms', h') => if id' = id then some (.normal, t', ms', h') else some (.exit id', t', ms', h')
    | r => r
  | n + 1, .loop c, t, ms, h =>
    match aCode P call nt rd n c t ms h with
    | some (.normal, t', ms', h') => aCode P call nt rd n (.loop c) t' ms' h'
    | r => r
  | _ + 1, .exit id, t, ms, h => some (.exit id, t, ms, h)
  | _ + 1, .ret, t, ms, h => some (.ret, t, ms, h)
  | _ + 1, .rangeFunc f ps assign body, t, ms, h =>
    match aEnv t f with
    | some (.func (.func g) first captured) =>
      match aEnter rd ms h with
      | some (dn, ms', h1) =>
        match call.fn g (first.toList ++ [.func (.yield h1.next) #[] #[]] ++ captured.toList) (h1.new (.loop ⟨.ready, none, t, nt, ps, assign, body, dn⟩)) with
        | some (_, h2) => match h2.get h1.next with
          | some (.loop r) => if r.state = .busy then none else match jumpEx r.pending with
            | some e => some (e, t, ms', h2.put h1.next (some (.loop { r with state := .exhausted })))
            | none => none
          | _ => none
        | none => none
      | none => none
    | _ => none
  | _ + 1, _, _, _, _ => none

section
variable {P : Program} {call : CallF} {nt : Nat} {rd : Option Nat}

theorem aEnter_grow {ms ms' : List Nat} {h h1 : AH} {dn : Nat} (hw : h.wlim ≤ h.next) (e : aEnter rd ms h = some (dn, ms', h1)) : Grow h h1 := by
  unfold aEnter at e
  split at e
  · simp only [Option.some.injEq, Prod.mk.injEq] at e; obtain ⟨_, _, rfl⟩ := e; exact grow_new hw _
  · split at e
    · simp only [Option.some.injEq, Prod.mk.injEq] at e; obtain ⟨_, _, rfl⟩ := e; exact Grow.refl _
    · cases e

theorem aCode_grow (C : CallOk P call.rel) (nm : namesOk P = true) : ∀ (n : Nat) (c : Code) (t : Tr Value) (ms : List Nat) (h : AH) (e : AEx) (t' : Tr Value) (ms' : List Nat) (h' : AH), h.wlim ≤ h.next → aCode P call nt rd n c t ms h = some (e, t', ms', h') → Grow h h' := by
  intro n
  induction n with
  | zero => intro c t ms h e t' ms' h' _ he; simp [aCode] at he
  | succ n ih =>
    intro c t ms h e t' ms' h' hw he
    cases c with
    | skip => simp only [aCode, Option.some.injEq, Prod.mk.injEq] at he; obtain ⟨_, _, _, rfl⟩ := he; exact Grow.refl _
    | region id ops d =>
      simp only [aCode] at he
      split at he
      · rename_i t1 h1 hr
        simp only [Option.some.injEq, Prod.mk.injEq] at he
        obtain ⟨_, _, _, rfl⟩ := he
        cases d with
        | true => exact rRegion_grow C nm hw (rRegion_of hr)
        | false => exact aRow_grow C _ _ _ hw _ _ hr
      · cases he
    | seq x y =>
      simp only [aCode] at he
      split at he
      · rename_i t1 m1 h1 hx
        have g := ih _ _ _ _ _ _ _ _ hw hx
        exact g.trans (ih _ _ _ _ _ _ _ _ (g.wl hw) he)
      · exact ih _ _ _ _ _ _ _ _ hw he
    | cond c x y =>
      simp only [aCode] at he
      split at he
      · exact ih _ _ _ _ _ _ _ _ hw he
      · cases he
    | block id c =>
      simp only [aCode] at he
      split at he
      · rename_i id' t1 m1 h1 hx
        have g := ih _ _ _ _ _ _ _ _ hw hx
        split at he <;> (simp only [Option.some.injEq, Prod.mk.injEq] at he; obtain ⟨_, _, _, rfl⟩ := he; exact g)
      · exact ih _ _ _ _ _ _ _ _ hw he
    | loop c =>
      simp only [aCode] at he
      split at he
      · rename_i t1 m1 h1 hx
        have g := ih _ _ _ _ _ _ _ _ hw hx
        exact g.trans (ih _ _ _ _ _ _ _ _ (g.wl hw) he)
      · exact ih _ _ _ _ _ _ _ _ hw he
    | exit id => simp only [aCode, Option.some.injEq, Prod.mk.injEq] at he; obtain ⟨_, _, _, rfl⟩ := he; exact Grow.refl _
    | ret => simp only [aCode, Option.some.injEq, Prod.mk.injEq] at he; obtain ⟨_, _, _, rfl⟩ := he; exact Grow.refl _
    | rangeFunc f ps assign body =>
      simp only [aCode] at he
      split at he
      · split at he
        · rename_i dn m1 h1 hen
          have g1 := aEnter_grow hw hen
          split at he
          · rename_i u h2 hc
            have g2 := grow_new (g1.wl hw) (.loop ⟨.ready, none, t, nt, ps, assign, body, dn⟩)
            have g3 := C.grow _ _ _ _ _ (g2.wl (g1.wl hw)) hc
            have g := g1.trans (g2.trans g3)
            split at he
            · split at he
              · cases he
              · split at he
                · simp only [Option.some.injEq, Prod.mk.injEq] at he
                  obtain ⟨_, _, _, rfl⟩ := he
                  refine g.trans (grow_put ?_ _)
                  rw [g.wlim]
                  exact Nat.le_trans hw g1.next
                · cases he
            · cases he
          · cases he
        · cases he
      · cases he
    | _ => simp [aCode] at he

/- the round in which an activation is -/
def RdOK (φ : Nat → Nat × Nat) (N : Nat → Prop) (rd rc : Option Nat) : Prop :=
  match rd, rc with
  | none, none => True
  | some k, some c => N k ∧ (φ k).1 = c
  | _, _ => False
theorem RdOK.step {w0 w' : World} {φ φ' : Nat → Nat × Nat} {κ κ' : Nat → Nat} {h h' : AH} {rc : Option Nat} (r : RdOK φ h.N rd rc) (S : Step w0 φ κ h φ' κ' h' w') : RdOK φ' h'.N rd rc := by
  unfold RdOK at *
  cases rd <;> cases rc <;> first
    | exact r
    | exact ⟨S.sees r.1, by rw [(S.agree r.1).1]; exact r.2⟩
def MsOK (N : Nat → Prop) (ms : List Nat) : Prop := ∀ m ∈ ms, N m
theorem MsOK.step {w0 w' : World} {φ φ' : Nat → Nat × Nat} {κ κ' : Nat → Nat} {h h' : AH} {ms : List Nat} (r : MsOK h.N ms) (S : Step w0 φ κ h φ' κ' h' w') : MsOK h'.N ms ∧ ms.map (markD φ') = ms.map (markD φ) :=
  ⟨fun m hm => S.sees (r m hm), List.map_congr_left fun m hm => by unfold markD; rw [(S.agree (r m hm)).1]⟩

/- what a piece of code must leave -/
def CodeOK (P : Program) (call : CallF) (nt : Nat) (rd : Option Nat) (c : Code) : Prop :=
  ∀ (n : Nat) (t : Tr Value) (ms : List Nat) (h : AH) (e : AEx) (t' : Tr Value) (ms' : List Nat) (h' : AH), aCode P call nt rd n c t ms h = some (e, t', ms', h') →
    ∀ (Q : Exit → Act → World → Prop) (rc : Option Nat) w0 φ κ w a, Rel w0 φ κ h w → RdOK φ h.N rd rc → MsOK h.N ms → ARel φ κ h.N nt t (ms.map (markD φ)) a →
    (∀ φ' κ' w' a', Step w0 φ κ h φ' κ' h' w' → MsOK h'.N ms' → ARel φ' κ' h'.N nt t' (ms'.map (markD φ')) a' → Q e.toExit a' w') → c.wpIn (fen rc) 0 P Q a w

theorem ARel.ds {φ : Nat → Nat × Nat} {κ : Nat → Nat} {N : Nat → Prop} {t : Tr Value} {d d' : List Deferred} {a : Act} (A : ARel φ κ N nt t d a) (e : d = d') : ARel φ κ N nt t d' a := e ▸ A

theorem aLoop_sound {c : Code} (body : CodeOK P call nt rd c) {Q : Exit → Act → World → Prop} {rc : Option Nat} :
    ∀ (n : Nat) (t : Tr Value) (ms : List Nat) (h : AH) (e : AEx) (t' : Tr Value) (ms' : List Nat) (h' : AH), aCode P call nt rd n (.loop c) t ms h = some (e, t', ms', h') → ∀ w0 φ κ w a, Rel w0 φ κ h w → RdOK φ h.N rd rc → MsOK h.N ms → ARel φ κ h.N nt t (ms.map (markD φ)) a →
      (∀ φ' κ' w' a', Step w0 φ κ h φ' κ' h' w' → MsOK h'.N ms' → ARel φ' κ' h'.N nt t' (ms'.map (markD φ')) a' → Q e.toExit a' w') → Code.roundsIn (fen rc) 0 P c Q n a w := by
  intro n
  induction n with
  | zero => intro t ms h e t' ms' h' he; simp [aCode] at he
  | succ n ih =>
    intro t ms h e t' ms' h' he w0 φ κ w a R D M A hq
    rw [roundsIn_succ]
    simp only [aCode] at he
    split at he
    · rename_i t1 m1 h1 hx
      refine body n _ _ _ _ _ _ _ hx _ rc w0 φ κ w a R D M A fun φ1 κ1 w1 a1 S1 M1 A1 => ?_
      exact ih _ _ _ _ _ _ _ he w0 φ1 κ1 w1 a1 S1.rel (D.step S1) M1 A1 fun φ2 κ2 w2 a2 S2 M2 A2 => hq φ2 κ2 w2 a2 (S1.trans S2) M2 A2
    · rename_i hx
      refine body n _ _ _ _ _ _ _ he _ rc w0 φ κ w a R D M A fun φ1 κ1 w1 a1 S1 M1 A1 => ?_
      have := hq φ1 κ1 w1 a1 S1 M1 A1
      cases e with
      | normal => exact absurd he (hx t' ms' h')
      | exit id => exact this
      | ret => exact this

theorem run_getObj {w : World} {r : Nat} {o : Obj} (h : w.heap[r]? = some o) (hc : ∀ c e f, o ≠ .cells c e f) : (getObj r).run P w = .ok o w := by
  unfold getObj
  simp only [Sem.run, h] <;> (cases o <;> first | rfl | exact absurd rfl (hc _ _ _))
theorem run_setObj {w : World} {r : Nat} {o o' : Obj} (h : w.heap[r]? = some o) (hc : ∀ c e f, o ≠ .cells c e f) : (setObj r o').run P w = .ok () { w with heap := w.heap.setIfInBounds r o' } := by
  unfold setObj
  simp only [Sem.run, h] <;> (cases o <;> first | rfl | exact absurd rfl (hc _ _ _))
theorem run_getLoop {w : World} {r : Nat} {R : Loop} (h : w.heap[r]? = some (.loop R)) : (Instr.getLoop r).run P w = .ok R w := by
  unfold Instr.getLoop
  rw [Sem.run_bind, run_getObj h (by simp)]
  rfl

/- a loop's record written -/
theorem Rel.writeLoop {w0 w : World} {φ : Nat → Nat × Nat} {κ : Nat → Nat} {h : AH} (R : Rel w0 φ κ h w) {k : Nat} {r : ALoop} (g : h.get k = some (.loop r)) (hk : h.wlim ≤ k) (st : LoopState) (pd : Option Code) :
    ∃ Lr : Loop, w.heap[(φ k).1]? = some (.loop Lr) ∧ LoopOK φ κ h.N r Lr ∧ Step w0 φ κ h φ κ (h.put k (some (.loop { r with state := st, pending := pd }))) { w with heap := w.heap.setIfInBounds (φ k).1 (.loop { Lr with state := st, pending := pd }) } := by
  obtain ⟨h1, Lr, h2, h3⟩ := R.ent k _ g
  refine ⟨Lr, h2, h3, R.write g hk trivial ⟨h1, { Lr with state := st, pending := pd }, ?_, ⟨rfl, rfl, h3.params, h3.assign, h3.body, h3.size, h3.get, h3.ok, h3.defers, h3.dok⟩⟩⟩
  exact Array.getElem?_setIfInBounds_self_of_lt (Array.getElem?_eq_some_iff.1 h2).1

theorem enter_sound {w0 w : World} {φ : Nat → Nat × Nat} {κ : Nat → Nat} {h h1 : AH} {ms ms' : List Nat} {dn : Nat} {rc : Option Nat} {t : Tr Value} {a : Act} (fn : FuncId) (ps : Array Tmp) (x y : Code) (R : Rel w0 φ κ h w) (D : RdOK φ h.N rd rc) (M : MsOK h.N ms) (A : ARel φ κ h.N nt t (ms.map (markD φ)) a) (e : aEnter rd ms h = some (dn, ms', h1)) :
    ∃ φ' κ' w' mark, (Instr.enterLoop fn a.tmps ps x y (fen rc).round).run P w = .ok ((φ' h1.next).1, mark) w' ∧ Step w0 φ κ h φ' κ' (h1.new (.loop ⟨.ready, none, t, nt, ps, x, y, dn⟩)) w' ∧ MsOK (h1.new (.loop ⟨.ready, none, t, nt, ps, x, y, dn⟩)).N ms' ∧ mark ++ a.defers = ms'.map (markD φ') ∧ (h1.new (.loop ⟨.ready, none, t, nt, ps, x, y, dn⟩)).N h1.next := by
  -- laying the record
  have lay : ∀ {φ1 : Nat → Nat × Nat} {κ1 : Nat → Nat} {w1 : World} (S1 : Step w0 φ κ h φ1 κ1 h1 w1) (hdn : h1.N dn),
      Step w0 φ κ h (upd φ1 h1.next (w1.heap.size, 0)) (upd κ1 h1.next 0) (h1.new (.loop ⟨.ready, none, t, nt, ps, x, y, dn⟩)) { w1 with heap := w1.heap.push (.loop { state := .ready, pending := none, fn, tmps := a.tmps, params := ps, assign := x, body := y, defers := (φ1 dn).1 }), drawn := w1.drawn } := by
    intro φ1 κ1 w1 S1 hdn
    have A1 := A.step S1
    have hne : ∀ k, h1.sees k = true → k ≠ h1.next := fun k s e => by have := sees_lt s; omega
    refine S1.trans (S1.rel.push rfl ⟨by rw [upd_same], { state := .ready, pending := none, fn, tmps := a.tmps, params := ps, assign := x, body := y, defers := (φ1 dn).1 }, by rw [upd_same]; show (w1.heap.push _)[w1.heap.size]? = _; simp, ⟨rfl, rfl, rfl, rfl, rfl, A1.size, fun d v hd => ?_, fun d v hd => ?_, ?_, new_sees hdn⟩⟩)
    · rw [ren_congr (N := h1.N) (fun k s => ⟨upd_ne _ _ (hne k s), upd_ne _ _ (hne k s)⟩) _ (A1.ok d v hd)]
      exact A1.get d v hd
    · exact ok_mono (fun _ s => new_sees s) (fun k s => upd_ne _ _ (hne k s)) _ (A1.ok d v hd)
    · rw [upd_ne _ _ (hne dn hdn)]
  unfold aEnter at e
  split at e
  · simp only [Option.some.injEq, Prod.mk.injEq] at e
    obtain ⟨rfl, rfl, rfl⟩ := e
    have hrc : rc = none := by unfold RdOK at D; cases rc <;> simp_all
    subst hrc
    have S1 := R.push (o := .deferred true) (ob := .deferred (some [])) (p := (w.heap.size, 0)) (K := 0) (d := w.drawn) rfl ⟨by rw [upd_same], by rw [upd_same]; show (w.heap.push _)[w.heap.size]? = _; simp⟩
    have hself := new_sees_self (h := h) (o := .deferred true) R.hid
    have S2 := lay S1 hself
    have hb := S2.rel
    refine ⟨_, _, _, [{ target := .collected w.heap.size, args := #[] }], ?_, S2, ?_, ?_, new_sees_self S1.rel.hid⟩
    · unfold Instr.enterLoop
      simp only [fen, Fence.wide, newObj, Sem.run_bind, Sem.run, Result.andThen_ok, Sem.run_pure, upd_same, Array.size_push]
    · intro m hm
      rcases List.mem_cons.1 hm with hm | hm
      · subst hm; exact new_sees hself
      · exact new_sees (new_sees (M m hm))
    · rw [A.defers, List.map_cons]
      have h0 : (upd (upd φ h.next (w.heap.size, 0)) (h.new (.deferred true)).next ((w.heap.push (.deferred (some []))).size, 0) h.next) = (w.heap.size, 0) := by
        rw [upd_ne _ _ (by rw [new_next]; omega), upd_same]
      have h1 : ms.map (markD (upd (upd φ h.next (w.heap.size, 0)) (h.new (.deferred true)).next ((w.heap.push (.deferred (some []))).size, 0))) = ms.map (markD φ) := by
        apply List.map_congr_left
        intro m hm
        have := sees_lt (M m hm)
        unfold markD
        rw [upd_ne _ _ (by rw [new_next]; omega), upd_ne _ _ (by omega)]
      rw [h1]
      unfold markD
      rw [h0]
      rfl
  · rename_i l
    split at e
    · rename_i r g
      simp only [Option.some.injEq, Prod.mk.injEq] at e
      obtain ⟨rfl, rfl, rfl⟩ := e
      obtain ⟨c, rfl, hN, hc⟩ : ∃ c, rc = some c ∧ h.N l ∧ (φ l).1 = c := by
        unfold RdOK at D
        cases rc with
        | none => exact D.elim
        | some c => exact ⟨c, rfl, D.1, D.2⟩
      obtain ⟨g1, Lr, g2, g3⟩ := R.ent l _ g
      have S2 := lay R.step g3.dok
      refine ⟨_, _, _, [], ?_, S2, ?_, ?_, new_sees_self R.hid⟩
      · unfold Instr.enterLoop
        rw [hc] at g2
        simp only [fen, Fence.inRound, Sem.run_bind, run_getLoop g2, Result.andThen_ok, Sem.run_pure, newObj, Sem.run, upd_same, g3.defers]
      · intro m hm; exact new_sees (M m hm)
      · rw [A.defers, List.nil_append]
        apply List.map_congr_left
        intro m hm
        have := sees_lt (M m hm)
        unfold markD
        rw [upd_ne _ _ (by omega)]
    · cases e

theorem range_sound (nm : namesOk P = true) (C : CallOk P call.rel) (f : Operand) (ps : Array Tmp) (x y : Code) : CodeOK P call nt rd (.rangeFunc f ps x y) := by
  intro n t ms h e t' ms' h' he Q rc w0 φ κ w a R D M A hq
  cases n with
  | zero => simp [aCode] at he
  | succ n =>
    simp only [aCode] at he
    split at he
    · rename_i g first captured hf
      obtain ⟨f1, f2⟩ := A.env f _ hf
      split at he
      · rename_i dn m1 h1 hen
        split at he
        · rename_i u h2 hc
          split at he
          · rename_i r hg
            split at he
            · cases he
            · rename_i hbusy
              split at he
              · rename_i e1 hj
                simp only [Option.some.injEq, Prod.mk.injEq] at he
                obtain ⟨rfl, rfl, rfl, rfl⟩ := he
                refine wpIn_rangeFunc fun fn _ => ?_
                obtain ⟨φ1, κ1, w1, mark, q1, S1, M1, q2, q3⟩ := enter_sound (P := P) fn ps x y R D M A hen
                obtain ⟨fn', body', hfn, hbody⟩ := C.body _ _ _ _ _ hc
                have hfr : ren φ1 κ1 (.func (.func g) first captured) = a.eval f := by rw [S1.ren f2, f1]
                have hargs : ((first.toList ++ [Value.func (.yield h1.next) #[] #[]] ++ captured.toList).map (ren φ1 κ1)).toArray = renA φ1 κ1 first ++ #[Value.func (.yield (φ1 h1.next).1) #[] #[]] ++ renA φ1 κ1 captured := by
                  rw [renA_map, renA_map]
                  apply Array.ext'
                  simp [ren, renF, renA, renL]
                refine ⟨_, _, _, { target := .fn (.func g) (renA φ1 κ1 captured), args := renA φ1 κ1 first ++ #[Value.func (.yield (φ1 h1.next).1) #[] #[]] }, w1, g, renA φ1 κ1 first ++ #[Value.func (.yield (φ1 h1.next).1) #[] #[]] ++ renA φ1 κ1 captured, w1, q1, ?_, fun f' _ => fen_fn rc f', ?_, fun hd => (by rw [fen_depth] at hd; cases hd), ?_⟩
                · unfold resolve rangeCall
                  have hfr' : a.eval f = .func (.func g) (renA φ1 κ1 first) (renA φ1 κ1 captured) := by rw [← hfr]; simp only [ren, renF]
                  have hmap : (#[Operand.const (.func (.yield (φ1 h1.next).1) #[] #[])] : Array Operand).map a.eval = #[Value.func (.yield (φ1 h1.next).1) #[] #[]] := by simp [Act.eval]
                  simp only [hfr', Deferred.ofValue]
                  rw [hmap]
                  rfl
                · simp only [invoke]
                  exact callFunc_run nm hfn hbody _ _
                · rw [← hargs]
                  have hok : ∀ v ∈ first.toList ++ [Value.func (.yield h1.next) #[] #[]] ++ captured.toList, okV (h1.new (.loop ⟨.ready, none, t, nt, ps, x, y, dn⟩)).N κ1 v := by
                    intro v hv
                    have f3 := S1.ok f2
                    simp only [okV] at f3
                    rcases List.mem_append.1 hv with hv | hv
                    · rcases List.mem_append.1 hv with hv | hv
                      · exact okA_iff.1 f3.2.1 v hv
                      · rw [List.mem_singleton] at hv
                        subst hv
                        simp only [okV, okF, okA, okL, and_true]
                        exact q3
                    · exact okA_iff.1 f3.2.2 v hv
                  refine calls_fen _ rc ((C.run _ _ _ _ _ hc w0 φ1 κ1 w1 S1.rel hok).mono ?_)
                  rintro en w3 ⟨φ3, κ3, rfl, S3, _⟩
                  have hl1 : h.wlim ≤ h1.next := by
                    have := aEnter_grow R.wl hen
                    exact Nat.le_trans R.wl this.next
                  have hw2 : h2.wlim ≤ h1.next := by rw [S3.wlim, S1.wlim]; exact hl1
                  obtain ⟨Lr, l1, l2, l3⟩ := S3.rel.writeLoop hg hw2 .exhausted r.pending
                  have hphi : (φ3 h1.next).1 = (φ1 h1.next).1 := by rw [(S3.agree q3).1]
                  have S13 := (S1.trans S3).trans l3
                  obtain ⟨M3, m3⟩ := MsOK.step M1 (S3.trans l3)
                  refine ⟨r.pending, { w3 with heap := w3.heap.setIfInBounds (φ3 h1.next).1 (.loop { Lr with state := .exhausted, pending := r.pending }) }, ?_, ?_⟩
                  · unfold Instr.endLoop
                    rw [hphi] at l1
                    rw [Sem.run_bind, run_getLoop l1]
                    simp only [Result.andThen_ok]
                    have hb : (Lr.state == LoopState.busy) = false := by
                      rw [l2.state]
                      simpa using hbusy
                    simp only [hb, Bool.false_eq_true, if_false, Sem.run_bind]
                    rw [run_setObj l1 (by simp), hphi]
                    simp only [Result.andThen_ok, Sem.run_pure, l2.pending]
                  · have A3 : ARel φ3 κ3 (h2.put h1.next (some (.loop { r with state := .exhausted, pending := r.pending }))).N nt t (m1.map (markD φ3)) { a with defers := mark ++ a.defers } := by
                      have A0 := A.step S13
                      exact ⟨by rw [m3, ← q2], A0.size, A0.get, A0.ok⟩
                    have hQ := hq φ3 κ3 _ { a with defers := mark ++ a.defers } S13 M3 A3
                    cases hp : r.pending with
                    | none =>
                      rw [hp] at hj
                      simp only [jumpEx, Option.some.injEq] at hj
                      subst hj
                      rw [hp] at hQ
                      exact hQ
                    | some c =>
                      rw [hp] at hj
                      rw [hp] at hQ
                      cases c <;> simp only [jumpEx, Option.some.injEq] at hj <;> first
                        | (cases hj; done)
                        | (subst hj; exact wpIn_ret hQ)
                        | (subst hj; exact wpIn_exit hQ)
              · cases he
          · cases he
        · cases he
      · cases he
    · cases he

theorem aCode_sound (hm : P.follows .mixedOrders = true) (nm : namesOk P = true) (C : CallOk P call.rel) : ∀ (c : Code), CodeOK P call nt rd c := by
  intro c
  induction c with
  | skip =>
    intro n t ms h e t' ms' h' he Q rc w0 φ κ w a R D M A hq
    cases n with
    | zero => simp [aCode] at he
    | succ n =>
      simp only [aCode, Option.some.injEq, Prod.mk.injEq] at he
      obtain ⟨rfl, rfl, rfl, rfl⟩ := he
      exact wpIn_skip (hq φ κ w a R.step M A)
  | region id ops d =>
    intro n t ms h e t' ms' h' he Q rc w0 φ κ w a R D M A hq
    cases n with
    | zero => simp [aCode] at he
    | succ n =>
      simp only [aCode] at he
      split at he
      · rename_i t1 h1 hr
        simp only [Option.some.injEq, Prod.mk.injEq] at he
        obtain ⟨rfl, rfl, rfl, rfl⟩ := he
        have hq' : ∀ φ' κ' w' a', Step w0 φ κ h φ' κ' h1 w' → ARel φ' κ' h1.N nt t1 (ms.map (markD φ)) a' → Q .normal a' w' := by
          intro φ' κ' w' a' S A'
          obtain ⟨M', m'⟩ := M.step S
          exact hq φ' κ' w' a' S M' (A'.ds m'.symm)
        cases d with
        | true => exact rRegion_sound hm nm C (rRegion_of hr) R A hq'
        | false => exact wpIn_region_list (aRow_sound nm C _ _ _ _ _ hr w0 φ κ w a R A hq')
      · cases he
  | seq x y ihx ihy =>
    intro n t ms h e t' ms' h' he Q rc w0 φ κ w a R D M A hq
    cases n with
    | zero => simp [aCode] at he
    | succ n =>
      simp only [aCode] at he
      refine wpIn_seq ?_
      split at he
      · rename_i t1 m1 h1 hx
        refine ihx _ _ _ _ _ _ _ _ hx _ rc w0 φ κ w a R D M A fun φ1 κ1 w1 a1 S1 M1 A1 => ?_
        exact ihy _ _ _ _ _ _ _ _ he _ rc w0 φ1 κ1 w1 a1 S1.rel (D.step S1) M1 A1 fun φ2 κ2 w2 a2 S2 M2 A2 => hq φ2 κ2 w2 a2 (S1.trans S2) M2 A2
      · rename_i hx
        refine ihx _ _ _ _ _ _ _ _ he _ rc w0 φ κ w a R D M A fun φ1 κ1 w1 a1 S1 M1 A1 => ?_
        have := hq φ1 κ1 w1 a1 S1 M1 A1
        cases e with
        | normal => exact absurd he (hx t' ms' h')
        | exit id => exact this
        | ret => exact this
  | cond c x y ihx ihy =>
    intro n t ms h e t' ms' h' he Q rc w0 φ κ w a R D M A hq
    cases n with
    | zero => simp [aCode] at he
    | succ n =>
      simp only [aCode] at he
      split at he
      · rename_i b hb
        have hc := (A.env c _ hb).1
        simp only [ren] at hc
        refine wpIn_cond hc ?_
        cases b with
        | true => exact ihx _ _ _ _ _ _ _ _ he _ rc w0 φ κ w a R D M A hq
        | false => exact ihy _ _ _ _ _ _ _ _ he _ rc w0 φ κ w a R D M A hq
      · cases he
  | block id c ih =>
    intro n t ms h e t' ms' h' he Q rc w0 φ κ w a R D M A hq
    cases n with
    | zero => simp [aCode] at he
    | succ n =>
      simp only [aCode] at he
      refine wpIn_block ?_
      split at he
      · rename_i id' t1 m1 h1 hx
        refine ih _ _ _ _ _ _ _ _ hx _ rc w0 φ κ w a R D M A fun φ1 κ1 w1 a1 S1 M1 A1 => ?_
        simp only [AEx.toExit, Exit.inBlock]
        split at he
        · rename_i hid
          simp only [Option.some.injEq, Prod.mk.injEq] at he
          obtain ⟨rfl, rfl, rfl, rfl⟩ := he
          rw [if_pos hid]
          exact hq φ1 κ1 w1 a1 S1 M1 A1
        · rename_i hid
          simp only [Option.some.injEq, Prod.mk.injEq] at he
          obtain ⟨rfl, rfl, rfl, rfl⟩ := he
          rw [if_neg hid]
          exact hq φ1 κ1 w1 a1 S1 M1 A1
      · rename_i hx
        refine ih _ _ _ _ _ _ _ _ he _ rc w0 φ κ w a R D M A fun φ1 κ1 w1 a1 S1 M1 A1 => ?_
        have := hq φ1 κ1 w1 a1 S1 M1 A1
        cases e with
        | normal => exact this
        | exit id => exact absurd he (hx id t' ms' h')
        | ret => exact this
  | loop c ih =>
    intro n t ms h e t' ms' h' he Q rc w0 φ κ w a R D M A hq
    exact wpIn_loop_rounds n (aLoop_sound ih n t ms h e t' ms' h' he w0 φ κ w a R D M A hq)
  | exit id =>
    intro n t ms h e t' ms' h' he Q rc w0 φ κ w a R D M A hq
    cases n with
    | zero => simp [aCode] at he
    | succ n =>
      simp only [aCode, Option.some.injEq, Prod.mk.injEq] at he
      obtain ⟨rfl, rfl, rfl, rfl⟩ := he
      exact wpIn_exit (hq φ κ w a R.step M A)
  | ret =>
    intro n t ms h e t' ms' h' he Q rc w0 φ κ w a R D M A hq
    cases n with
    | zero => simp [aCode] at he
    | succ n =>
      simp only [aCode, Option.some.injEq, Prod.mk.injEq] at he
      obtain ⟨rfl, rfl, rfl, rfl⟩ := he
      exact wpIn_ret (hq φ κ w a R.step M A)
  | rangeFunc f ps x y _ _ => exact range_sound nm C f ps x y
  | _ =>
    intro n t ms h e t' ms' h' he
    cases n <;> simp [aCode] at he
end
end Go.Vm

/- VmR: A machine for closed runs, eighteenth part: calls. -/
namespace Go.Vm
open Go Go.RowKit

def aRes (P : Program) (t : Tr Value) (h : AH) : List ResultVar → Option (List Value)
  | [] => some []
  | .tmp d :: r => match t.get d, aRes P t h r with
    | some v, some l => some (v :: l)
    | _, _ => none
  | .cell d ty :: r => match t.get d, aRes P t h r with
    | some a, some l => match aLoad P h ty a with
      | some v => some (v :: l)
      | none => none
    | _, _ => none
def packV : List Value → Value
  | [v] => v
  | l => .tuple ⟨l⟩

def argTr (i : Nat) : List Value → Tr Value → Tr Value
  | [], t => t
  | v :: r, t => argTr (i + 1) r (t.put i (some v))

abbrev Hook := Nat → Option (List Value → AH → Option (Value × AH))
def hookFn (hook : Hook) : Nat → List Value → AH → Option (Value × AH) := fun f args h => match hook f with
  | some g => g args h
  | none => none
def noHook : Hook := fun _ => none

/- the marks of loops over functions, at a function's end -/
def aMarks : List Nat → AH → Option AH
  | [], h => some h
  | m :: r, h => match h.get m with
    | some (.deferred true) => if h.wlim ≤ m then aMarks r (h.put m (some (.deferred false))) else none
    | _ => none

def aFun (P : Program) (call : CallF) (fu : Nat) (f : Nat) (args : List Value) (h : AH) : Option (Value × AH) :=
  match P.funcs[f]? with
  | some fn =>
    match fn.body with
    | some c =>
      if args.length ≤ fn.ntmps then
        match aCode P call fn.ntmps none fu c (argTr 0 args .leaf) [] h with
        | some (.exit _, _, _, _) => none
        | some (_, t, ms, h1) => match aMarks ms h1 with
          | some h' => match aRes P t h' fn.results.toList with
            | some l => some (packV l, h')
            | none => none
          | none => none
        | none => none
      else none
    | none => none
  | none => none

def aPuts (nt : Nat) : List (Tmp × Value) → Tr Value → Option (Tr Value)
  | [], t => some t
  | (d, v) :: r, t => match aPut nt t (some d) v with
    | some t' => aPuts nt r t'
    | none => none

def isNormal : AEx → Bool
  | .normal => true
  | _ => false

def aYld (P : Program) (call : CallF) (fu : Nat) (k : Nat) (args : List Value) (h : AH) : Option (Value × AH) :=
  match h.get k with
  | some (.loop r) =>
    if r.params.size = args.length ∧ h.wlim ≤ k then
      match aPuts r.nt (r.params.toList.zip args) r.t with
      | some t0 =>
        match aCode P call r.nt (some k) fu r.assign t0 [] h with
        | some (.normal, t1, ms1, h1) =>
          match h1.get k with
          | some (.loop r1) =>
            if r1.state = .ready then
              match aCode P call r.nt (some k) fu r.body t1 ms1 (h1.put k (some (.loop { r1 with state := .busy, pending := r1.pending }))) with
              | some (e, _, _, h2) =>
                match h2.get k with
                | some (.loop r2) => some (.bool (isNormal e), h2.put k (some (.loop { r2 with state := if isNormal e then .ready else .done, pending := e.jump })))
                | _ => none
              | none => none
            else none
          | _ => none
        | _ => none
      | none => none
    else none
  | _ => none

def aRun (P : Program) (hook : Hook) (fu : Nat) : Nat → CallF
  | 0 => ⟨fun _ _ _ => none, fun _ _ _ => none⟩
  | n + 1 => ⟨fun f args h => match hook f with
      | some g => g args h
      | none => aFun P (aRun P hook fu n) fu f args h, aYld P (aRun P hook fu n) fu⟩

section
variable {P : Program} {w0 w w' : World} {φ φ' : Nat → Nat × Nat} {κ κ' : Nat → Nat} {a : Act} {h h' : AH} {t t' : Tr Value} {nt : Nat} {ds : List Deferred} {call : CallF}

theorem argTr_get : ∀ (l : List Value) (i : Nat) (t : Tr Value) (d : Nat), (argTr i l t).get d = if i ≤ d ∧ d < i + l.length then l[d - i]? else t.get d := by
  intro l
  induction l with
  | nil => intro i t d; simp only [argTr]; rw [if_neg (by simp)]
  | cons v r ih =>
    intro i t d
    simp only [argTr]
    rw [ih]
    by_cases h1 : i + 1 ≤ d ∧ d < i + 1 + r.length
    · rw [if_pos h1, if_pos (by simp; omega), show d - i = (d - (i + 1)) + 1 from by omega]
      simp
    · rw [if_neg h1, Tr.get_put]
      by_cases e : d = i
      · subst e; rw [if_pos rfl, if_pos (by simp)]; simp
      · rw [if_neg e, if_neg (by simp; omega)]

theorem mapM_res (A : ARel φ κ h.N nt t ds a) (R : Rel w0 φ κ h w) (F : ResultVar → Sem Value) (F1 : ∀ d, F (.tmp d) = pure (a.tmps.getD d undef)) (F2 : ∀ d ty, F (.cell d ty) = (do loadVar ty (← asAddr (a.tmps.getD d undef)))) : ∀ (l : List ResultVar) (vs : List Value), aRes P t h l = some vs →
    (l.mapM F).run P w = .ok (vs.map (ren φ κ)) w ∧ ∀ v ∈ vs, okV h.N κ v := by
  have hget : ∀ d v, t.get d = some v → a.tmps.getD d undef = ren φ κ v := fun d v e => (A.env (.tmp d) v e).1
  intro l
  induction l with
  | nil => intro vs e; simp only [aRes, Option.some.injEq] at e; subst e; exact ⟨rfl, by simp⟩
  | cons r l ih =>
    intro vs e
    rw [List.mapM_cons]
    cases r with
    | tmp d =>
      simp only [aRes] at e
      split at e
      · rename_i u vl hu hl
        injection e with e
        subst e
        obtain ⟨i1, i2⟩ := ih vl hl
        refine ⟨?_, fun v hv => ?_⟩
        · rw [F1]
          simp only [Sem.run_bind, Sem.run_pure, Result.andThen_ok, i1, List.map_cons]
          rw [hget d u hu]
        · rcases List.mem_cons.1 hv with hv | hv
          · exact hv ▸ A.ok d u hu
          · exact i2 v hv
      · cases e
    | cell d ty =>
      simp only [aRes] at e
      split at e
      rename_i ad vl had hl
      split at e
      · rename_i v hv
        injection e with e
        subst e
        obtain ⟨i1, i2⟩ := ih vl hl
        obtain ⟨l1, l2⟩ := aLoad_sound (P := P) R hv
        refine ⟨?_, fun u hu => ?_⟩
        · have hl1 : (do loadVar ty (← asAddr (a.tmps.getD d undef)) : Sem Value).run P w = .ok (ren φ κ v) w := by
            rw [hget d ad had]
            unfold aLoad at hv
            split at hv
            · exact l1
            · cases hv
          rw [F2]
          simp only [Sem.run_bind] at hl1 ⊢
          rw [hl1]
          simp only [Result.andThen_ok, i1, Sem.run_pure, List.map_cons]
        · rcases List.mem_cons.1 hu with hu | hu
          · exact hu ▸ l2
          · exact i2 u hu
      · cases e
      · cases e

theorem results_sound {fn : Func} (A : ARel φ κ h.N nt t ds a) (R : Rel w0 φ κ h w) {l : List Value} (e : aRes P t h fn.results.toList = some l) : (results fn a.tmps).run P w = .ok (ren φ κ (packV l)) w ∧ okV h.N κ (packV l) := by
  constructor
  · unfold results
    rw [Array.mapM_eq_mapM_toList]
    simp only [Sem.run_bind, Sem.run_map]
    rw [(mapM_res (P := P) A R _ (fun _ => rfl) (fun _ _ => rfl) _ _ e).1]
    simp only [Result.andThen_ok]
    match l with
    | [] => rfl
    | [v] => rfl
    | v :: u :: r =>
      simp only [packV, ren, renA, renL_map]
      rfl
  · have h2 := (mapM_res (P := P) A R (fun r => match r with | .tmp t => pure (a.tmps.getD t undef) | .cell d ty => do loadVar ty (← asAddr (a.tmps.getD d undef))) (fun _ => rfl) (fun _ _ => rfl) _ _ e).2
    match l with
    | [] => simp [packV, okV, okA, okL]
    | [v] => exact h2 v (by simp)
    | v :: u :: r =>
      simp only [packV, okV, okA, okL_iff]
      exact h2

theorem aMarks_grow : ∀ (ms : List Nat) (h h' : AH), aMarks ms h = some h' → Grow h h' := by
  intro ms
  induction ms with
  | nil => intro h h' e; simp only [aMarks, Option.some.injEq] at e; subst e; exact Grow.refl _
  | cons m r ih =>
    intro h h' e
    simp only [aMarks] at e
    split at e
    · split at e
      · rename_i hm
        exact (grow_put hm _).trans (ih _ _ e)
      · cases e
    · cases e

theorem aMarks_sound {fn : Func} {tmps : Array Value} {Rr : Ending → World → Prop} : ∀ (ms : List Nat) (h h' : AH), aMarks ms h = some h' → ∀ w0 φ κ w, Rel w0 φ κ h w → MsOK h.N ms →
    (∀ w', Step w0 φ κ h φ κ h' w' → ∃ v, (results fn tmps).run P w' = .ok v w' ∧ Rr (.returned v) w') → LeavesInM Fence.wide 0 P fn tmps Rr (ms.map (markD φ)) .returning w := by
  intro ms
  induction ms with
  | nil =>
    intro h h' e w0 φ κ w R M hq
    simp only [aMarks, Option.some.injEq] at e
    subst e
    exact hq w R.step
  | cons m r ih =>
    intro h h' e w0 φ κ w R M hq
    simp only [aMarks] at e
    split at e
    · rename_i g
      split at e
      · rename_i hm
        obtain ⟨g1, g2⟩ := R.ent m _ g
        have S := R.write (o' := .deferred false) (ob := .deferred none) g hm trivial ⟨g1, Array.getElem?_setIfInBounds_self_of_lt (Array.getElem?_eq_some_iff.1 g2).1⟩
        refine ⟨by simp, .inl ⟨(φ m).1, _, rfl, ?_, ih _ _ e w0 φ κ _ S.rel (fun x hx => by rw [put_N]; exact M x (by simp [hx])) fun w' S' => hq w' (S.trans S')⟩⟩
        unfold Instr.takeDeferred
        rw [Sem.run_bind, run_getObj g2 (by simp)]
        simp only [Result.andThen_ok, if_true, Sem.run_bind]
        rw [run_setObj g2 (by simp)]
        rfl
      · cases e
    · cases e

theorem aPuts_sound {N : Nat → Prop} : ∀ (l : List (Tmp × Value)) (t t' : Tr Value) (a : Act), aPuts nt l t = some t' → ARel φ κ N nt t ds a → (∀ p ∈ l, okV N κ p.2) →
    ARel φ κ N nt t' ds { a with tmps := (l.map fun p => (p.1, ren φ κ p.2)).foldl (fun tmps (p : Tmp × Value) => tmps.setIfInBounds p.1 p.2) a.tmps } := by
  intro l
  induction l with
  | nil => intro t t' a e A _; simp only [aPuts, Option.some.injEq] at e; subst e; exact A
  | cons p r ih =>
    intro t t' a e A ho
    obtain ⟨d, v⟩ := p
    simp only [aPuts] at e
    split at e
    · rename_i t1 h1
      exact ih _ _ _ e (A.put h1 (ho (d, v) (by simp))) (fun q hq => ho q (by simp [hq]))
    · cases e

theorem aYld_grow (C : CallOk P call.rel) (nm : namesOk P = true) {fu k : Nat} {args : List Value} {v : Value} (hw : h.wlim ≤ h.next) (e : aYld P call fu k args h = some (v, h')) : Grow h h' := by
  unfold aYld at e
  split at e
  · split at e
    · rename_i hc
      split at e
      · split at e
        · rename_i t1 ms1 h1 hx
          have g1 := aCode_grow C nm _ _ _ _ _ _ _ _ _ hw hx
          split at e
          · split at e
            · have hk : h1.wlim ≤ k := by rw [g1.wlim]; exact hc.2
              have g2 := grow_put hk (some (.loop { (‹ALoop› : ALoop) with state := .busy, pending := (‹ALoop› : ALoop).pending }))
              split at e
              · rename_i ex t2 ms2 h2 hy
                have g3 := aCode_grow C nm _ _ _ _ _ _ _ _ _ (by rw [put_wlim, put_next]; exact g1.wl hw) hy
                split at e
                · simp only [Option.some.injEq, Prod.mk.injEq] at e
                  obtain ⟨_, rfl⟩ := e
                  refine g1.trans ((grow_put hk _).trans (g3.trans (grow_put ?_ _)))
                  rw [g3.wlim, put_wlim]
                  exact hk
                · cases e
              · cases e
            · cases e
          · cases e
        · cases e
      · cases e
    · cases e
  · cases e

theorem aFun_spec {fu f : Nat} {args : List Value} {v : Value} (e : aFun P call fu f args h = some (v, h')) :
    ∃ fn c ex t ms h1 l, P.funcs[f]? = some fn ∧ fn.body = some c ∧ args.length ≤ fn.ntmps ∧ aCode P call fn.ntmps none fu c (argTr 0 args .leaf) [] h = some (ex, t, ms, h1) ∧ (ex = .normal ∨ ex = .ret) ∧ aMarks ms h1 = some h' ∧ aRes P t h' fn.results.toList = some l ∧ v = packV l := by
  unfold aFun at e
  split at e
  · rename_i fn hf
    split at e
    · rename_i c hc
      split at e
      · rename_i hl
        split at e
        · cases e
        · rename_i ex t ms h1 hne hcode
          split at e
          · rename_i h2 hms
            split at e
            · rename_i l hres
              simp only [Option.some.injEq, Prod.mk.injEq] at e
              obtain ⟨rfl, rfl⟩ := e
              refine ⟨fn, c, ex, t, ms, h1, l, hf, hc, hl, hcode, ?_, hms, hres, rfl⟩
              cases ex with
              | normal => exact .inl rfl
              | ret => exact .inr rfl
              | exit id => exact absurd rfl (hne id)
            · cases e
          · cases e
        · cases e
      · cases e
    · cases e
  · cases e

theorem aFun_grow (C : CallOk P call.rel) (nm : namesOk P = true) {fu f : Nat} {args : List Value} {v : Value} (hw : h.wlim ≤ h.next) (e : aFun P call fu f args h = some (v, h')) : Grow h h' := by
  obtain ⟨fn, c, ex, t, ms, h1, l, _, _, _, h5, _, h7, _, _⟩ := aFun_spec e
  exact (aCode_grow C nm _ _ _ _ _ _ _ _ _ hw h5).trans (aMarks_grow _ _ _ h7)

theorem aFun_sound (hm : P.follows .mixedOrders = true) (nm : namesOk P = true) (C : CallOk P call.rel) {fu f : Nat} {args : List Value} {v : Value} (e : aFun P call fu f args h = some (v, h')) (R : Rel w0 φ κ h w) (ha : ∀ x ∈ args, okV h.N κ x) :
    Calls P f (args.map (ren φ κ)).toArray w fun e w' => ∃ φ' κ', e = .returned (ren φ' κ' v) ∧ Step w0 φ κ h φ' κ' h' w' ∧ okV h'.N κ' v := by
  obtain ⟨fn, c, ex, t, ms, h1, l, q1, q2, q3, q4, q5, q6, q7, rfl⟩ := aFun_spec e
  refine callsIn_wide.1 (callsIn_of_wp_marks (F := Fence.wide) (n := 0) q1 q2 trivial ?_ rfl)
  refine aCode_sound (rd := none) hm nm C c _ _ _ _ _ _ _ _ q4 _ none w0 φ κ w _ R trivial (fun m hm => by cases hm) ⟨rfl, ?_, fun d v hd => ?_, fun d v hd => ?_⟩ fun φ' κ' w' a' S M A => ?_
  · simp
    omega
  · rw [argTr_get] at hd
    by_cases hlt : d < args.length
    · rw [if_pos ⟨Nat.zero_le _, by omega⟩, Nat.sub_zero] at hd
      rw [Array.getElem?_append_left (by simpa using hlt)]
      simp [hd]
    · rw [if_neg (by omega), Tr.get_leaf] at hd
      cases hd
  · rw [argTr_get] at hd
    split at hd
    · exact ha _ (List.mem_of_getElem? hd)
    · rw [Tr.get_leaf] at hd
      cases hd
  · have hfin : LeavesInM Fence.wide 0 P fn a'.tmps (fun e w' => ∃ φ' κ', e = .returned (ren φ' κ' (packV l)) ∧ Step w0 φ κ h φ' κ' h' w' ∧ okV h'.N κ' (packV l)) a'.defers .returning w' := by
      rw [A.defers]
      refine aMarks_sound ms h1 h' q6 w0 φ' κ' w' S.rel M fun w2 S2 => ?_
      obtain ⟨r1, r2⟩ := results_sound (P := P) (fn := fn) (A.step S2) S2.rel q7
      exact ⟨_, r1, φ', κ', rfl, S.trans S2, r2⟩
    rcases q5 with rfl | rfl
    · exact hfin
    · exact hfin

theorem aYld_sound (hm : P.follows .mixedOrders = true) (nm : namesOk P = true) (C : CallOk P call.rel) {fu k : Nat} {args : List Value} {v : Value} (e : aYld P call fu k args h = some (v, h')) (R : Rel w0 φ κ h w) (ha : ∀ x ∈ args, okV h.N κ x) :
    ∃ f tmps assign body, (Instr.yield (φ k).1 (args.map (ren φ κ)).toArray).run P w = .ok (.round (φ k).1 f tmps assign body) w ∧
      RoundIn Fence.wide 0 P (φ k).1 f tmps assign body w fun e w' => ∃ φ' κ', e = .returned (ren φ' κ' v) ∧ Step w0 φ κ h φ' κ' h' w' ∧ okV h'.N κ' v := by
  unfold aYld at e
  split at e
  · rename_i r g
    split at e
    · rename_i hc
      split at e
      · rename_i t0 hput
        split at e
        · rename_i t1 ms1 h1 hx
          split at e
          · rename_i r1 g1
            split at e
            · rename_i hst
              split at e
              · rename_i ex t2 ms2 h2 hy
                split at e
                · rename_i r2 g2
                  simp only [Option.some.injEq, Prod.mk.injEq] at e
                  obtain ⟨rfl, rfl⟩ := e
                  obtain ⟨p1, Lr, p2, p3⟩ := R.ent k _ g
                  have hNk : h.N k := get_sees g
                  refine ⟨Lr.fn, (Lr.params.zip (args.map (ren φ κ)).toArray).foldl (fun tmps (t, a) => tmps.setIfInBounds t a) Lr.tmps, Lr.assign, Lr.body, ?_, ?_⟩
                  · unfold Instr.yield
                    rw [Sem.run_bind, run_getLoop p2]
                    simp only [Result.andThen_ok]
                    rw [if_neg (by rw [p3.params]; simp [hc.1])]
                    rfl
                  · have A0 : ARel φ κ h.N r.nt r.t [] { tmps := Lr.tmps, defers := [] } := ⟨rfl, p3.size, p3.get, p3.ok⟩
                    have A1 := aPuts_sound _ _ _ _ hput A0 (fun p hp => ha _ (List.of_mem_zip hp).2)
                    have htm : ((r.params.toList.zip args).map fun p => (p.1, ren φ κ p.2)).foldl (fun tmps (p : Tmp × Value) => tmps.setIfInBounds p.1 p.2) Lr.tmps = (Lr.params.zip (args.map (ren φ κ)).toArray).foldl (fun tmps (t, a) => tmps.setIfInBounds t a) Lr.tmps := by
                      rw [← Array.foldl_toList, Array.toList_zip, p3.params, List.zip_map_right]
                      congr 1
                    rw [htm] at A1
                    refine roundIn_of_wpIn trivial ?_
                    rw [p3.assign]
                    refine aCode_sound (rd := some k) hm nm C r.assign _ _ _ _ _ _ _ _ hx _ (some (φ k).1) w0 φ κ w _ R ⟨hNk, rfl⟩ (fun m hm => by cases hm) A1 fun φ1 κ1 w1 a1 S1 M1 A2 => ?_
                    have hk1 : h1.wlim ≤ k := by rw [S1.wlim]; exact hc.2
                    obtain ⟨L1, u1, u2, u3⟩ := S1.rel.writeLoop g1 hk1 .busy r1.pending
                    have hphi1 : (φ1 k).1 = (φ k).1 := by rw [(S1.agree hNk).1]
                    have hrec1 : ({ L1 with state := .busy } : Loop) = { L1 with state := .busy, pending := r1.pending } := by rw [← u2.pending]
                    refine ⟨{ w1 with heap := w1.heap.setIfInBounds (φ1 k).1 (.loop { L1 with state := .busy, pending := r1.pending }) }, ?_, ?_⟩
                    · unfold Instr.beginRound
                      rw [hphi1] at u1 ⊢
                      rw [Sem.run_bind, run_getLoop u1]
                      simp only [Result.andThen_ok, Sem.run_bind]
                      rw [run_setObj u1 (by simp), hrec1]
                      simp only [Result.andThen_ok, u2.state, hst]
                      rfl
                    · rw [p3.body]
                      obtain ⟨M2, m2⟩ := MsOK.step M1 u3
                      refine aCode_sound (rd := some k) hm nm C r.body _ _ _ _ _ _ _ _ hy _ (some (φ k).1) w0 φ1 κ1 _ a1 u3.rel ⟨by rw [put_N]; exact S1.sees hNk, hphi1⟩ M2 ((A2.step u3).ds m2.symm) fun φ3 κ3 w3 a3 S3 M3 A3 => ?_
                      have S13 := (S1.trans u3).trans S3
                      have hk2 : h2.wlim ≤ k := by rw [S13.wlim]; exact hc.2
                      have hphi3 : (φ3 k).1 = (φ k).1 := by rw [(S13.agree hNk).1]
                      have fin : ∀ (st : LoopState) (pd : Option Code) (b : Bool), (if pd.isNone then LoopState.ready else LoopState.done) = st → pd.isNone = b → ∃ v w', (Instr.endRound (φ k).1 pd).run P w3 = .ok v w' ∧ (∃ φ' κ', Ending.returned v = .returned (ren φ' κ' (.bool b)) ∧ Step w0 φ κ h φ' κ' (h2.put k (some (.loop { r2 with state := st, pending := pd }))) w' ∧ okV (h2.put k (some (.loop { r2 with state := st, pending := pd }))).N κ' (.bool b)) := by
                        intro st pd b h1' h2'
                        obtain ⟨L3, x1, x2, x3⟩ := S13.rel.writeLoop g2 hk2 st pd
                        refine ⟨_, _, ?_, φ3, κ3, rfl, S13.trans x3, by simp [okV]⟩
                        unfold Instr.endRound
                        rw [hphi3] at x1 ⊢
                        rw [Sem.run_bind, run_getLoop x1]
                        simp only [Result.andThen_ok, Sem.run_bind]
                        rw [run_setObj x1 (by simp), h1', h2']
                        rfl
                      cases ex with
                      | normal => exact fin .ready none true rfl rfl
                      | ret => exact fin .done (some .ret) false rfl rfl
                      | exit id => exact fin .done (some (.exit id)) false rfl rfl
                · cases e
              · cases e
            · cases e
          · cases e
        · cases e
      · cases e
    · cases e
  · cases e

/- contracts that are given to the machine -/
structure HookOk (P : Program) (hook : Hook) : Prop where
  grow : ∀ f args h v h', h.wlim ≤ h.next → hookFn hook f args h = some (v, h') → Grow h h'
  body : ∀ f args h v h', hookFn hook f args h = some (v, h') → ∃ fn c, P.funcs[f]? = some fn ∧ fn.body = some c
  run : ∀ f args h v h', hookFn hook f args h = some (v, h') → ∀ w0 φ κ w, Rel w0 φ κ h w → (∀ x ∈ args, okV h.N κ x) →
    Calls P f (args.map (ren φ κ)).toArray w fun e w' => ∃ φ' κ', e = .returned (ren φ' κ' v) ∧ Step w0 φ κ h φ' κ' h' w' ∧ okV h'.N κ' v

theorem aRun_ok (hm : P.follows .mixedOrders = true) (nm : namesOk P = true) {hook : Hook} (hk : HookOk P hook) (fu : Nat) : ∀ n, CallOk P (aRun P hook fu n).rel := by
  intro n
  induction n with
  | zero => exact ⟨fun f args h v h' _ e => by simp [aRun, CallF.rel] at e, fun f args h v h' e => by simp [aRun, CallF.rel] at e, fun f args h v h' e => by simp [aRun, CallF.rel] at e, fun f args h v h' _ e => by simp [aRun, CallF.rel] at e, fun f args h v h' e => by simp [aRun, CallF.rel] at e⟩
  | succ n ih =>
    have part : ∀ f args h v h', (aRun P hook fu (n + 1)).fn f args h = some (v, h') → hookFn hook f args h = some (v, h') ∨ aFun P (aRun P hook fu n) fu f args h = some (v, h') := by
      intro f args h v h' e
      simp only [aRun] at e
      split at e
      · rename_i g hg
        left
        unfold hookFn
        rw [hg]
        exact e
      · exact .inr e
    refine ⟨fun f args h v h' hw e => ?_, fun f args h v h' e => ?_, fun f args h v h' e w0 φ κ w R ha => ?_, fun k args h v h' hw e => ?_, fun k args h v h' e w0 φ κ w R ha => ?_⟩
    · rcases part f args h v h' e with e | e
      · exact hk.grow _ _ _ _ _ hw e
      · exact aFun_grow ih nm hw e
    · rcases part f args h v h' e with e | e
      · exact hk.body _ _ _ _ _ e
      · obtain ⟨fn, c, ex, t, ms, h1, l, q1, q2, _⟩ := aFun_spec e
        exact ⟨fn, c, q1, q2⟩
    · rcases part f args h v h' e with e | e
      · exact hk.run _ _ _ _ _ e w0 φ κ w R ha
      · exact aFun_sound hm nm ih e R ha
    · exact aYld_grow ih nm hw e
    · exact aYld_sound hm nm ih e R ha

theorem noHook_ok : HookOk P noHook := ⟨fun f args h v h' _ e => by simp [hookFn, noHook] at e, fun f args h v h' e => by simp [hookFn, noHook] at e, fun f args h v h' e => by simp [hookFn, noHook] at e⟩

def h00 : AH := ⟨.leaf, 0, 0, []⟩
theorem rel00 (w : World) : Rel w (fun _ => (0, 0)) (fun _ => 0) h00 w :=
  ⟨Below.refl _ _, fun p hp => (by cases hp), Nat.le_refl _, fun k o g => (by have := get_tr g; cases this), fun k o g => (by have := get_tr g; cases this), fun k k' o o' g => (by have := get_tr g; cases this)⟩

/- what a run of the machine proves of a call -/
theorem calls_closed {call : CallF} (C : CallOk P call.rel) {f : Nat} {args : List Value} {v : Value} {h' : AH} (e : call.fn f args h00 = some (v, h')) (ha : noAddrs args = true) (hv : noAddr v = true) (w : World) :
    Calls P f args.toArray w fun e w' => e = .returned v ∧ Below w.heap.size w w' := by
  have hmem : ∀ (l : List Value), noAddrs l = true → ∀ x ∈ l, noAddr x = true := by
    intro l
    induction l with
    | nil => intro _ x hx; cases hx
    | cons y r ih =>
      intro h x hx
      simp only [noAddrs, Bool.and_eq_true] at h
      rcases List.mem_cons.1 hx with hx | hx
      · exact hx ▸ h.1
      · exact ih h.2 x hx
  have := C.run _ _ _ _ _ e w _ _ w (rel00 w) (fun x hx => ok_noAddr _ _ _ (hmem args ha x hx))
  rw [noAddrs_ren _ ha] at this
  refine this.mono ?_
  rintro en w' ⟨φ', κ', rfl, S, _⟩
  exact ⟨by rw [ren_noAddr _ _ _ hv], S.rel.below⟩

def isTrue : Option (Value × AH) → Bool
  | some (.bool b, _) => b
  | _ => false
theorem calls_true (hm : P.follows .mixedOrders = true) (nm : namesOk P = true) {hook : Hook} (hk : HookOk P hook) {fu n f : Nat} (e : isTrue ((aRun P hook fu n).fn f [] h00) = true) (w : World) :
    Calls P f #[] w fun e w' => e = .returned (.bool true) ∧ Below w.heap.size w w' := by
  unfold isTrue at e
  split at e
  · rename_i b h' he
    subst e
    exact calls_closed (aRun_ok hm nm hk fu n) he rfl rfl w
  · cases e
end
end Go.Vm

/- VmS: A machine for closed runs, nineteenth part: contracts of calls on memory by names, and what a piece of code leaves. -/
namespace Go.Vm
open Go Go.RowKit

/-- A contract: wherever args stand in memory h, the call of f returns v and leaves h'. -/
structure Fc (P : Program) (f : Nat) (args : List Value) (h : AH) (v : Value) (h' : AH) : Prop where
  grow : h.wlim ≤ h.next → Grow h h'
  body : ∃ fn c, P.funcs[f]? = some fn ∧ fn.body = some c
  run : ∀ w0 φ κ w, Rel w0 φ κ h w → (∀ x ∈ args, okV h.N κ x) →
    Calls P f (args.map (ren φ κ)).toArray w fun e w' => ∃ φ' κ', e = .returned (ren φ' κ' v) ∧ Step w0 φ κ h φ' κ' h' w' ∧ okV h'.N κ' v

/-- The same of a round of a loop over a function. -/
structure Yl (P : Program) (k : Nat) (args : List Value) (h : AH) (v : Value) (h' : AH) : Prop where
  grow : h.wlim ≤ h.next → Grow h h'
  run : ∀ w0 φ κ w, Rel w0 φ κ h w → (∀ x ∈ args, okV h.N κ x) →
    ∃ f tmps assign body, (Instr.yield (φ k).1 (args.map (ren φ κ)).toArray).run P w = .ok (.round (φ k).1 f tmps assign body) w ∧
      RoundIn Fence.wide 0 P (φ k).1 f tmps assign body w fun e w' => ∃ φ' κ', e = .returned (ren φ' κ' v) ∧ Step w0 φ κ h φ' κ' h' w' ∧ okV h'.N κ' v

def semC (P : Program) : CallR := ⟨Fc P, Yl P⟩
theorem semC_ok (P : Program) : CallOk P (semC P) :=
  ⟨fun _ _ _ _ _ hw e => e.grow hw, fun _ _ _ _ _ e => e.body, fun _ _ _ _ _ e => e.run, fun _ _ _ _ _ hw e => e.grow hw, fun _ _ _ _ _ e => e.run⟩

/-- What a run of the machine says is a contract. -/
theorem Fc.of_run {P : Program} {call : CallF} (C : CallOk P call.rel) {f : Nat} {args : List Value} {h h' : AH} {v : Value} (e : call.fn f args h = some (v, h')) : Fc P f args h v h' :=
  ⟨fun hw => C.grow _ _ _ _ _ hw e, C.body _ _ _ _ _ e, C.run _ _ _ _ _ e⟩

/- a row of operations, calls being a relation -/
def rRow (P : Program) (C : CallR) (nt : Nat) (ops : Array Oper) : List Oper → Tr Value → AH → Tr Value → AH → Prop
  | [], t, h, t', h' => t' = t ∧ h' = h
  | o :: r, t, h, t', h' =>
    (aWant ops t o = some true ∧ ∃ v h1 t1, rStep P C h (aEnv t) o v h1 ∧ aPut nt t o.dst v = some t1 ∧ rRow P C nt ops r t1 h1 t' h') ∨
    (aWant ops t o = some false ∧ ∃ t1, aPut nt t o.dst undef = some t1 ∧ rRow P C nt ops r t1 h t' h')

/-- What has become of memory, seen from names below b: those mean what they meant. -/
structure Stb (b : Nat) (w0 : World) (φ : Nat → Nat × Nat) (κ : Nat → Nat) (h : AH) (φ' : Nat → Nat × Nat) (κ' : Nat → Nat) (h' : AH) (w' : World) : Prop where
  agr : ∀ k, k < b → φ' k = φ k ∧ κ' k = κ k
  rel : Rel w0 φ' κ' h' w'
  next : b ≤ h'.next
  hid : h'.hid = h.hid
  wlim : h'.wlim = h.wlim
  keep : ∀ k, k < h.wlim → h'.tr.get k = h.tr.get k
theorem Stb.of {b : Nat} {w0 w' : World} {φ φ' : Nat → Nat × Nat} {κ κ' : Nat → Nat} {h h' : AH} (S : Step w0 φ κ h φ' κ' h' w') (hb : b ≤ h.next) : Stb b w0 φ κ h φ' κ' h' w' :=
  ⟨fun k hk => S.agr k (by omega), S.rel, Nat.le_trans hb S.next, S.hid, S.wlim, S.keep⟩
theorem Stb.trans {b : Nat} {w0 w' w'' : World} {φ φ' φ'' : Nat → Nat × Nat} {κ κ' κ'' : Nat → Nat} {h h' h'' : AH} (S : Stb b w0 φ κ h φ' κ' h' w') (T : Stb b w0 φ' κ' h' φ'' κ'' h'' w'') : Stb b w0 φ κ h φ'' κ'' h'' w'' :=
  ⟨fun k hk => ⟨(T.agr k hk).1.trans (S.agr k hk).1, (T.agr k hk).2.trans (S.agr k hk).2⟩, T.rel, T.next, T.hid.trans S.hid, T.wlim.trans S.wlim, fun k hk => (T.keep k (by rw [S.wlim]; exact hk)).trans (S.keep k hk)⟩

/-- What a piece of code leaves, from slots t, marks ms and memory h on; names below b keep their meaning. -/
def Tri (P : Program) (nt : Nat) (rd : Option Nat) (b : Nat) (c : Code) (t : Tr Value) (ms : List Nat) (h : AH) (Q : AEx → Tr Value → List Nat → AH → Prop) : Prop :=
  ∀ (K : Exit → Act → World → Prop) (rc : Option Nat) w0 φ κ w a, b ≤ h.next → Rel w0 φ κ h w → RdOK φ h.N rd rc → MsOK h.N ms → ARel φ κ h.N nt t (ms.map (markD φ)) a →
    (∀ e t' ms' h' φ' κ' w' a', Q e t' ms' h' → Stb b w0 φ κ h φ' κ' h' w' → RdOK φ' h'.N rd rc → MsOK h'.N ms' → ARel φ' κ' h'.N nt t' (ms'.map (markD φ')) a' → K e.toExit a' w') → c.wpIn (fen rc) 0 P K a w

section
variable {P : Program} {nt b : Nat} {rd : Option Nat} {t t' : Tr Value} {ms : List Nat} {h h' : AH} {Q Q' : AEx → Tr Value → List Nat → AH → Prop} {ops : Array Oper}

theorem rRow_sound {C : CallR} (hnm : namesOk P = true) (ok : CallOk P C) {ds : List Deferred} {rc : Option Nat} {Q : Exit → Act → World → Prop} : ∀ (l : List Oper) (t : Tr Value) (h : AH) (t' : Tr Value) (h' : AH), rRow P C nt ops l t h t' h' →
    ∀ w0 φ κ w a, Rel w0 φ κ h w → ARel φ κ h.N nt t ds a → (∀ φ' κ' w' a', Step w0 φ κ h φ' κ' h' w' → ARel φ' κ' h'.N nt t' ds a' → Q .normal a' w') → wpListIn (fen rc) 0 P ops Q l a w := by
  intro l
  induction l with
  | nil =>
    intro t h t' h' e w0 φ κ w a R A hq
    obtain ⟨rfl, rfl⟩ := e
    exact hq φ κ w a R.step A
  | cons o r ih =>
    intro t h t' h' e w0 φ κ w a R A hq
    unfold wpListIn
    rcases e with ⟨hw, v, h1, t1, hs, hp, e⟩ | ⟨hw, t1, hp, e⟩
    · rw [A.want hw, if_pos rfl]
      refine rStep_sound hnm ok R A.env hs fun φ1 κ1 w1 S1 o1 => ?_
      exact ih _ _ _ _ e w0 φ1 κ1 w1 _ S1.rel ((A.step S1).put hp o1) fun φ' κ' w' a' S A' => hq φ' κ' w' a' (S1.trans S) A'
    · rw [A.want hw, if_neg (by simp)]
      have := A.put hp (ok_undef (κ := κ))
      rw [ren_undef] at this
      exact ⟨fun f _ => fen_fn rc f, ih _ _ _ _ e w0 φ κ w _ R this hq⟩

theorem Tri.mono {c : Code} (T : Tri P nt rd b c t ms h Q) (hq : ∀ e t' ms' h', Q e t' ms' h' → Q' e t' ms' h') : Tri P nt rd b c t ms h Q' :=
  fun K rc w0 φ κ w a B R D M A hk => T K rc w0 φ κ w a B R D M A fun e t' ms' h' φ' κ' w' a' q => hk e t' ms' h' φ' κ' w' a' (hq _ _ _ _ q)

theorem Rel.stb {w0 w : World} {φ : Nat → Nat × Nat} {κ : Nat → Nat} (R : Rel w0 φ κ h w) (B : b ≤ h.next) : Stb b w0 φ κ h φ κ h w := .of R.step B
theorem Tri.skip (q : Q .normal t ms h) : Tri P nt rd b .skip t ms h Q := fun _ _ _ φ κ w a B R D M A hk => wpIn_skip (hk _ _ _ _ φ κ w a q (R.stb B) D M A)
theorem Tri.exit {id : Nat} (q : Q (.exit id) t ms h) : Tri P nt rd b (.exit id) t ms h Q := fun _ _ _ φ κ w a B R D M A hk => wpIn_exit (hk _ _ _ _ φ κ w a q (R.stb B) D M A)
theorem Tri.ret (q : Q .ret t ms h) : Tri P nt rd b .ret t ms h Q := fun _ _ _ φ κ w a B R D M A hk => wpIn_ret (hk _ _ _ _ φ κ w a q (R.stb B) D M A)

theorem Tri.row {id : Nat} (hnm : namesOk P = true) (e : rRow P (semC P) nt ops ops.toList t h t' h') (q : Q .normal t' ms h') : Tri P nt rd b (.region id ops false) t ms h Q := by
  intro K rc w0 φ κ w a B R D M A hk
  refine wpIn_region_list (rRow_sound hnm (semC_ok P) _ _ _ _ _ e w0 φ κ w a R A fun φ' κ' w' a' S A' => ?_)
  obtain ⟨M', m'⟩ := M.step S
  exact hk _ _ _ _ φ' κ' w' a' q (.of S B) (D.step S) M' (A'.ds m'.symm)
theorem Tri.draw {id : Nat} (hm : P.follows .mixedOrders = true) (hnm : namesOk P = true) (e : rRegion P (semC P) nt ops t h t' h') (q : Q .normal t' ms h') : Tri P nt rd b (.region id ops true) t ms h Q := by
  intro K rc w0 φ κ w a B R D M A hk
  refine rRegion_sound hm hnm (semC_ok P) e R A fun φ' κ' w' a' S A' => ?_
  obtain ⟨M', m'⟩ := M.step S
  exact hk _ _ _ _ φ' κ' w' a' q (.of S B) (D.step S) M' (A'.ds m'.symm)

theorem Tri.seq {x y : Code} (X : Tri P nt rd b x t ms h fun e t' ms' h' => match e with | .normal => Tri P nt rd b y t' ms' h' Q | e => Q e t' ms' h') : Tri P nt rd b (.seq x y) t ms h Q := by
  intro K rc w0 φ κ w a B R D M A hk
  refine wpIn_seq (X _ rc w0 φ κ w a B R D M A fun e t1 ms1 h1 φ1 κ1 w1 a1 q S1 D1 M1 A1 => ?_)
  cases e with
  | normal => exact q K rc w0 φ1 κ1 w1 a1 S1.next S1.rel D1 M1 A1 fun e t2 ms2 h2 φ2 κ2 w2 a2 q2 S2 D2 M2 A2 => hk e t2 ms2 h2 φ2 κ2 w2 a2 q2 (S1.trans S2) D2 M2 A2
  | exit id => exact hk (.exit id) t1 ms1 h1 φ1 κ1 w1 a1 q S1 D1 M1 A1
  | ret => exact hk .ret t1 ms1 h1 φ1 κ1 w1 a1 q S1 D1 M1 A1

theorem Tri.cond {c : Operand} {x y : Code} {v : Bool} (hb : aEnv t c = some (.bool v)) (X : v = true → Tri P nt rd b x t ms h Q) (Y : v = false → Tri P nt rd b y t ms h Q) : Tri P nt rd b (.cond c x y) t ms h Q := by
  intro K rc w0 φ κ w a B R D M A hk
  have hc := (A.env c _ hb).1
  simp only [ren] at hc
  refine wpIn_cond hc ?_
  cases v with
  | true => exact X rfl K rc w0 φ κ w a B R D M A hk
  | false => exact Y rfl K rc w0 φ κ w a B R D M A hk

theorem Tri.block {id : Nat} {c : Code} (X : Tri P nt rd b c t ms h fun e t' ms' h' => match e with | .exit j => if j = id then Q .normal t' ms' h' else Q (.exit j) t' ms' h' | e => Q e t' ms' h') : Tri P nt rd b (.block id c) t ms h Q := by
  intro K rc w0 φ κ w a B R D M A hk
  refine wpIn_block (X _ rc w0 φ κ w a B R D M A fun e t1 ms1 h1 φ1 κ1 w1 a1 q S1 D1 M1 A1 => ?_)
  cases e with
  | normal => exact hk .normal t1 ms1 h1 φ1 κ1 w1 a1 q S1 D1 M1 A1
  | ret => exact hk .ret t1 ms1 h1 φ1 κ1 w1 a1 q S1 D1 M1 A1
  | exit j =>
    simp only [AEx.toExit, Exit.inBlock]
    simp only at q
    by_cases hj : j = id
    · rw [if_pos hj] at q ⊢; exact hk .normal t1 ms1 h1 φ1 κ1 w1 a1 q S1 D1 M1 A1
    · rw [if_neg hj] at q ⊢; exact hk (.exit j) t1 ms1 h1 φ1 κ1 w1 a1 q S1 D1 M1 A1

/-- The same state, said otherwise: whatever stands as (t, ms, h) stands as (t', ms', h'), under other names from b on. -/
def Wk (nt b : Nat) (rd : Option Nat) (t : Tr Value) (ms : List Nat) (h : AH) (t' : Tr Value) (ms' : List Nat) (h' : AH) : Prop :=
  ∀ w0 φ κ w a rc, b ≤ h.next → Rel w0 φ κ h w → RdOK φ h.N rd rc → MsOK h.N ms → ARel φ κ h.N nt t (ms.map (markD φ)) a →
    ∃ φ' κ', Stb b w0 φ κ h φ' κ' h' w ∧ RdOK φ' h'.N rd rc ∧ MsOK h'.N ms' ∧ ARel φ' κ' h'.N nt t' (ms'.map (markD φ')) a

theorem Tri.weak {c : Code} {ms' : List Nat} (W : Wk nt b rd t ms h t' ms' h') (T : Tri P nt rd b c t' ms' h' Q) : Tri P nt rd b c t ms h Q := by
  intro K rc w0 φ κ w a B R D M A hk
  obtain ⟨φ1, κ1, S1, D1, M1, A1⟩ := W w0 φ κ w a rc B R D M A
  exact T K rc w0 φ1 κ1 w a S1.next S1.rel D1 M1 A1 fun e t2 ms2 h2 φ2 κ2 w2 a2 q2 S2 D2 M2 A2 => hk e t2 ms2 h2 φ2 κ2 w2 a2 q2 (S1.trans S2) D2 M2 A2

/-- A loop: states of a family, and a measure. -/
theorem Tri.loop {ι : Type} {c : Code} (T : ι → Tr Value) (M : ι → List Nat) (H : ι → AH) (I : ι → Prop) (μ : ι → Nat) (i0 : ι) (h0 : I i0)
    (body : ∀ i, I i → Tri P nt rd b c (T i) (M i) (H i) fun e t' ms' h' => match e with | .normal => ∃ j, I j ∧ μ j < μ i ∧ Wk nt b rd t' ms' h' (T j) (M j) (H j) | e => Q e t' ms' h') :
    Tri P nt rd b (.loop c) (T i0) (M i0) (H i0) Q := by
  intro K rc w0 φ κ w a B R D M0 A hk
  have key : ∀ n i, μ i < n → I i → ∀ φ1 κ1 w1 a1, Stb b w0 φ κ (H i0) φ1 κ1 (H i) w1 → RdOK φ1 (H i).N rd rc → MsOK (H i).N (M i) → ARel φ1 κ1 (H i).N nt (T i) ((M i).map (markD φ1)) a1 → Code.roundsIn (fen rc) 0 P c K n a1 w1 := by
    intro n
    induction n with
    | zero => intro i hi; omega
    | succ n ih =>
      intro i hi hI φ1 κ1 w1 a1 S1 D1 M1 A1
      rw [roundsIn_succ]
      refine body i hI _ rc w0 φ1 κ1 w1 a1 S1.next S1.rel D1 M1 A1 fun e t2 ms2 h2 φ2 κ2 w2 a2 q S2 D2 M2 A2 => ?_
      cases e with
      | normal =>
        obtain ⟨j, hj, hlt, W⟩ := q
        obtain ⟨φ3, κ3, S3, D3, M3, A3⟩ := W w0 φ2 κ2 w2 a2 rc S2.next S2.rel D2 M2 A2
        exact ih j (by omega) hj φ3 κ3 w2 a2 ((S1.trans S2).trans S3) D3 M3 A3
      | exit id => exact hk (.exit id) t2 ms2 h2 φ2 κ2 w2 a2 q (S1.trans S2) D2 M2 A2
      | ret => exact hk .ret t2 ms2 h2 φ2 κ2 w2 a2 q (S1.trans S2) D2 M2 A2
  exact wpIn_loop_rounds (μ i0 + 1) (key _ i0 (Nat.lt_succ_self _) h0 φ κ w a (R.stb B) D M0 A)
end
end Go.Vm

