/-
  A machine for closed runs, eleventh part: a region that draws its order.
-/
import Derived.Test.YtlkfcbdbieenhaaEvJ
import Derived.Orders
namespace Go.Ev
open Go Go.RowKit

def maskOf (ms : List Nat) (o : Oper) : Nat := o.after.toList.foldl (fun s e => if Region.binds .any e then s ||| 2 ^ e.on ||| ms.getD e.on 0 else s) 0
def masks : List Nat → List Oper → List Nat
  | acc, [] => acc
  | acc, o :: r => masks (acc ++ [maskOf acc o]) r

/- operations that look at no memory -/
def isPure : Op → Bool
  | .move _ | .assign _ | .pick .. | .build .. | .nilCheck _ | .binOp .. | .unOp .. | .convert .. | .makeFunc .. | .fieldAddr .. | .field .. | .indexAddr .. | .index .. | .extract .. => true
  | _ => false

def tmpOf : Operand → Option Nat
  | .tmp t => some t
  | _ => none
def touch (ops : Array Oper) (o : Oper) : List Nat :=
  o.dst.toList ++ o.op.operands.toList.filterMap tmpOf ++ (match o.guard with | some (g, _) => ((ops[g]?).bind (·.dst)).toList | none => [])

def aEnvT (ts : List Nat) (t : Tr Value) : Env
  | .tmp i => if ts.contains i then some ((t.get i).getD undef) else none
  | .const v => if noAddr v then some v else none
  | .global _ => none
  | .func f => some (.func (.func f) #[] #[])

def before (ms : List Nat) (j i : Nat) : Bool := (ms.getD i 0).testBit j
def ordered (ms : List Nat) (j i : Nat) : Bool := if j < i then before ms j i else before ms i j

/- whoever writes a slot that i touches stands before or behind i in every order -/
def slotsOk (ops : Array Oper) (ms : List Nat) : Bool :=
  ops.toList.zipIdx.all fun p => p.1.after.toList.all (fun e => !Region.binds .any e || decide (e.on < p.2)) &&
    ops.toList.zipIdx.all fun q => decide (q.2 = p.2) || (match q.1.dst with | some d => !(touch ops p.1).contains d || ordered ms q.2 p.2 | none => true)

def isBar (ops : Array Oper) (ms : List Nat) (i : Nat) (o : Oper) : Bool :=
  !isPure o.op && ops.toList.zipIdx.all fun q => decide (q.2 = i) || isPure q.1.op || ordered ms q.2 i

def aDraw (P : Program) (call : CallF) (nt : Nat) (ops : Array Oper) (ms : List Nat) : Nat → List Oper → Tr Value → AH → List (Nat × Nat × Nat) → Option (Tr Value × AH)
  | _, [], t, h, _ => some (t, h)
  | i, o :: r, t, h, news =>
    if aWant ops t o then
      if isBar ops ms i o then
        match aStep P call h (aEnvT (touch ops o) t) o with
        | some (v, h') => match aPut nt t o.dst v with
          | some t' => aDraw P call nt ops ms (i + 1) r t' h' []
          | none => none
        | none => none
      else
        match aStep P call { h with wlim := h.next, hid := h.hid ++ (news.filter fun x => decide (x.2.1 < x.2.2) && !before ms x.1 i).map (·.2) } (aEnvT (touch ops o) t) o with
        | some (v, h') => match aPut nt t o.dst v with
          | some t' => aDraw P call nt ops ms (i + 1) r t' { h' with wlim := h.wlim, hid := h.hid } ((i, h.next, h'.next) :: news)
          | none => none
        | none => none
    else match aPut nt t o.dst undef with
      | some t' => aDraw P call nt ops ms (i + 1) r t' h ((i, h.next, h.next) :: news)
      | none => none

def aRegion (P : Program) (call : CallF) (nt : Nat) (ops : Array Oper) (t : Tr Value) (h : AH) : Option (Tr Value × AH) :=
  let ms := masks [] ops.toList
  if slotsOk ops ms then aDraw P call nt ops ms 0 ops.toList t h [] else none

/- what was reckoned, operation by operation in the order of the text -/
structure Log where
  t : Nat → Tr Value
  h : Nat → AH
  v : Nat → Value
  p : Nat → Nat

def Log.hin (L : Log) (ms : List Nat) (i : Nat) : AH :=
  { L.h i with wlim := (L.h i).next, hid := (L.h i).hid ++ ((((List.range' (L.p i) (i - L.p i)).reverse.map fun j => (j, (L.h j).next, (L.h (j + 1)).next)).filter fun x => decide (x.2.1 < x.2.2) && !before ms x.1 i).map (·.2)) }

inductive LogAt (P : Program) (call : CallF) (nt : Nat) (ops : Array Oper) (ms : List Nat) (L : Log) (i : Nat) (o : Oper) : Prop where
  | skip (hw : aWant ops (L.t i) o = false) (hv : L.v i = undef) (ht : aPut nt (L.t i) o.dst undef = some (L.t (i + 1))) (hh : L.h (i + 1) = L.h i) (hp : L.p (i + 1) = L.p i)
  | bar (hw : aWant ops (L.t i) o = true) (hb : isBar ops ms i o = true) (hs : aStep P call (L.h i) (aEnvT (touch ops o) (L.t i)) o = some (L.v i, L.h (i + 1))) (ht : aPut nt (L.t i) o.dst (L.v i) = some (L.t (i + 1))) (hp : L.p (i + 1) = i + 1)
  | read (hw : aWant ops (L.t i) o = true) (hb : isBar ops ms i o = false) (h' : AH) (hs : aStep P call (L.hin ms i) (aEnvT (touch ops o) (L.t i)) o = some (L.v i, h')) (ht : aPut nt (L.t i) o.dst (L.v i) = some (L.t (i + 1))) (hh : L.h (i + 1) = { h' with wlim := (L.h i).wlim, hid := (L.h i).hid }) (hp : L.p (i + 1) = L.p i)

def Log.news (L : Log) (i : Nat) : List (Nat × Nat × Nat) := (List.range' (L.p i) (i - L.p i)).reverse.map fun j => (j, (L.h j).next, (L.h (j + 1)).next)

theorem Log.news_succ {L : Log} {i : Nat} (hp : L.p (i + 1) = L.p i) (hle : L.p i ≤ i) : L.news (i + 1) = (i, (L.h i).next, (L.h (i + 1)).next) :: L.news i := by
  unfold Log.news
  rw [hp, show i + 1 - L.p i = (i - L.p i) + 1 from by omega, List.range'_concat]
  simp only [List.reverse_append, List.reverse_cons, List.reverse_nil, List.nil_append, List.map_cons, List.cons_append]
  rw [show L.p i + 1 * (i - L.p i) = i from by omega]

section
variable {P : Program} {call : CallF} {nt : Nat} {ops : Array Oper} {ms : List Nat}

theorem aDraw_log : ∀ (r : List Oper) (i : Nat) (t : Tr Value) (h : AH) (news : List (Nat × Nat × Nat)) (t' : Tr Value) (h' : AH) (L0 : Log), aDraw P call nt ops ms i r t h news = some (t', h') →
    L0.t i = t → L0.h i = h → L0.news i = news → L0.p i ≤ i →
    ∃ L : Log, (∀ j, j ≤ i → L.t j = L0.t j ∧ L.h j = L0.h j ∧ L.p j = L0.p j) ∧ (∀ j, j < i → L.v j = L0.v j) ∧ L.t (i + r.length) = t' ∧ L.h (i + r.length) = h' ∧ (∀ k o, r[k]? = some o → LogAt P call nt ops ms L (i + k) o) ∧ (∀ k, k ≤ r.length → L.p (i + k) ≤ i + k) := by
  intro r
  induction r with
  | nil =>
    intro i t h news t' h' L0 e ht hh hn hp
    simp only [aDraw, Option.some.injEq, Prod.mk.injEq] at e
    obtain ⟨rfl, rfl⟩ := e
    exact ⟨L0, fun j _ => ⟨rfl, rfl, rfl⟩, fun _ _ => rfl, ht, hh, fun k o hk => by simp at hk, fun k hk => by
      obtain rfl : k = 0 := by simpa using hk
      exact hp⟩
  | cons o r ih =>
    intro i t h news t' h' L0 e ht hh hn hp
    -- the log with one more row
    have main : ∀ (v : Value) (t1 : Tr Value) (h1 : AH) (p1 : Nat), p1 ≤ i + 1 →
        (∀ L : Log, L.t i = t → L.h i = h → L.p i = L0.p i → (∀ j, j ≤ i → L.t j = L0.t j ∧ L.h j = L0.h j ∧ L.p j = L0.p j) → L.v i = v → L.t (i + 1) = t1 → L.h (i + 1) = h1 → L.p (i + 1) = p1 → LogAt P call nt ops ms L i o) →
        (∀ L : Log, (∀ j, j ≤ i → L.h j = L0.h j ∧ L.p j = L0.p j) → L.h (i + 1) = h1 → L.p (i + 1) = p1 → ∃ nw, L.news (i + 1) = nw ∧ aDraw P call nt ops ms (i + 1) r t1 h1 nw = some (t', h')) →
        ∃ L : Log, (∀ j, j ≤ i → L.t j = L0.t j ∧ L.h j = L0.h j ∧ L.p j = L0.p j) ∧ (∀ j, j < i → L.v j = L0.v j) ∧ L.t (i + (o :: r).length) = t' ∧ L.h (i + (o :: r).length) = h' ∧ (∀ k o', (o :: r)[k]? = some o' → LogAt P call nt ops ms L (i + k) o') ∧ (∀ k, k ≤ (o :: r).length → L.p (i + k) ≤ i + k) := by
      intro v t1 h1 p1 hp1 hat hnew
      let L1 : Log := ⟨fun j => if j = i + 1 then t1 else L0.t j, fun j => if j = i + 1 then h1 else L0.h j, fun j => if j = i then v else L0.v j, fun j => if j = i + 1 then p1 else L0.p j⟩
      have l1 : ∀ j, j ≤ i → L1.t j = L0.t j ∧ L1.h j = L0.h j ∧ L1.p j = L0.p j := fun j hj => ⟨if_neg (by omega), if_neg (by omega), if_neg (by omega)⟩
      obtain ⟨nw, hnw, hd⟩ := hnew L1 (fun j hj => (l1 j hj).2) (if_pos rfl) (if_pos rfl)
      obtain ⟨L, q1, q2, q3, q4, q5, q6⟩ := ih (i + 1) t1 h1 nw t' h' L1 hd (if_pos rfl) (if_pos rfl) hnw (by show (if _ then _ else _) ≤ _; rw [if_pos rfl]; exact hp1)
      have m1 : ∀ j, j ≤ i → L.t j = L0.t j ∧ L.h j = L0.h j ∧ L.p j = L0.p j := fun j hj => by
        obtain ⟨a, b, c⟩ := q1 j (by omega)
        obtain ⟨a', b', c'⟩ := l1 j hj
        exact ⟨a.trans a', b.trans b', c.trans c'⟩
      obtain ⟨n1, n2, n3⟩ := q1 (i + 1) (Nat.le_refl _)
      have e1 : L.t (i + 1) = t1 := n1.trans (if_pos rfl)
      have e2 : L.h (i + 1) = h1 := n2.trans (if_pos rfl)
      have e3 : L.p (i + 1) = p1 := n3.trans (if_pos rfl)
      have e4 : L.v i = v := (q2 i (by omega)).trans (if_pos rfl)
      refine ⟨L, m1, fun j hj => (q2 j (by omega)).trans (if_neg (by omega)), ?_, ?_, fun k o' hk => ?_, fun k hk => ?_⟩
      · rw [← q3]; congr 1; simp; omega
      · rw [← q4]; congr 1; simp; omega
      · cases k with
        | zero =>
          simp only [List.getElem?_cons_zero, Option.some.injEq] at hk
          subst hk
          obtain ⟨a, b, c⟩ := m1 i (Nat.le_refl _)
          exact hat L (a.trans ht) (b.trans hh) c m1 e4 e1 e2 e3
        | succ k =>
          have := q5 k o' (by simpa using hk)
          rw [show i + (k + 1) = i + 1 + k from by omega]
          exact this
      · cases k with
        | zero => rw [Nat.add_zero, (m1 i (Nat.le_refl _)).2.2]; exact hp
        | succ k =>
          have := q6 k (by simpa using hk)
          rw [show i + (k + 1) = i + 1 + k from by omega]
          exact this
    have newsOf : ∀ L : Log, (∀ j, j ≤ i → L.h j = L0.h j ∧ L.p j = L0.p j) → L.news i = news := by
      intro L hl
      rw [← hn]
      unfold Log.news
      rw [(hl i (Nat.le_refl _)).2]
      apply List.map_congr_left
      intro j hj
      have hj' := List.mem_range'_1.1 (List.mem_reverse.1 hj)
      rw [(hl j (by omega)).1, (hl (j + 1) (by omega)).1]
    simp only [aDraw] at e
    split at e
    · rename_i hw
      split at e
      · rename_i hb
        split at e
        · rename_i v h1 hs
          split at e
          · rename_i t1 hpt
            refine main v t1 h1 (i + 1) (Nat.le_refl _) (fun L a b c d e4 e1 e2 e3 => ?_) (fun L hl e2 e3 => ⟨[], ?_, e⟩)
            · exact .bar (by rw [a]; exact hw) hb (by rw [a, b, e4, e2]; exact hs) (by rw [a, e4, e1]; exact hpt) e3
            · unfold Log.news; rw [e3]; simp
          · cases e
        · cases e
      · rename_i hb
        split at e
        · rename_i v h1 hs
          split at e
          · rename_i t1 hpt
            refine main v t1 _ (L0.p i) (by omega) (fun L a b c d e4 e1 e2 e3 => ?_) (fun L hl e2 e3 => ⟨_, ?_, e⟩)
            · refine .read (by rw [a]; exact hw) (by simpa using hb) h1 ?_ (by rw [a, e4, e1]; exact hpt) (by rw [e2, b]) (by rw [e3, c])
              have := newsOf L (fun j hj => (d j hj).2)
              unfold Log.news at this
              unfold Log.hin
              rw [a, e4, this, b]
              exact hs
            · have hpi := (hl i (Nat.le_refl _))
              rw [L.news_succ (by rw [e3, hpi.2]) (by rw [hpi.2]; exact hp), newsOf L hl, e2, hpi.1, hh]
          · cases e
        · cases e
    · rename_i hw
      split at e
      · rename_i t1 hpt
        refine main undef t1 h (L0.p i) (by omega) (fun L a b c d e4 e1 e2 e3 => ?_) (fun L hl e2 e3 => ⟨_, ?_, e⟩)
        · exact .skip (by rw [a]; simpa using hw) e4 (by rw [a, e1]; exact hpt) (by rw [e2, b]) (by rw [e3, c])
        · have hpi := (hl i (Nat.le_refl _))
          rw [L.news_succ (by rw [e3, hpi.2]) (by rw [hpi.2]; exact hp), newsOf L hl, e2, hpi.1, hh]
      · cases e
end
end Go.Ev
