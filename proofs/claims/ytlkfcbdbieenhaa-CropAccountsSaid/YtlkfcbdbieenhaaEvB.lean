/-
  A machine for closed runs, second part: memory by names, and how it stands to a world.
-/
import Derived.Test.YtlkfcbdbieenhaaEvA
import Derived.Laws.CopyRow
import Derived.Laws.Cells
namespace Go.Ev
open Go Go.RowKit

structure Blk where
  cells : List Value
  esz : Nat
  opn : Bool
structure ALoop where
  state : LoopState
  pending : Option Code
  t : Tr Value
  nt : Nat
  params : Array Tmp
  assign : Code
  body : Code
  defers : Nat
inductive AObj where
  | cells (b : Blk)
  | map (es : List MapEntry) (clock : Nat)
  | loop (r : ALoop)
  | deferred (opn : Bool)
structure AH where
  tr : Tr AObj
  next : Nat
  wlim : Nat
  hid : List (Nat × Nat)

def AH.sees (h : AH) (k : Nat) : Bool := decide (k < h.next) && !(h.hid.any fun p => decide (p.1 ≤ k) && decide (k < p.2))
def AH.get (h : AH) (k : Nat) : Option AObj := if h.sees k then h.tr.get k else none
def AH.new (h : AH) (o : AObj) : AH := { h with tr := h.tr.put h.next (some o), next := h.next + 1 }
def AH.put (h : AH) (k : Nat) (o : Option AObj) : AH := { h with tr := h.tr.put k o }
def AH.N (h : AH) (k : Nat) : Prop := h.sees k = true

def renE (φ : Nat → Nat × Nat) (κ : Nat → Nat) (e : MapEntry) : MapEntry := ⟨ren φ κ e.key, ren φ κ e.val, e.born⟩

structure LoopOK (φ : Nat → Nat × Nat) (κ : Nat → Nat) (N : Nat → Prop) (r : ALoop) (R : Loop) : Prop where
  state : R.state = r.state
  pending : R.pending = r.pending
  params : R.params = r.params
  assign : R.assign = r.assign
  body : R.body = r.body
  size : R.tmps.size = r.nt
  get : ∀ d, d < r.nt → R.tmps[d]? = some (ren φ κ ((r.t.get d).getD undef))
  ok : ∀ d, okV N κ ((r.t.get d).getD undef)
  out : ∀ d, r.nt ≤ d → r.t.get d = none
  defers : R.defers = (φ r.defers).1
  dok : N r.defers

def entOK (φ : Nat → Nat × Nat) (κ : Nat → Nat) (N : Nat → Prop) (w : World) (k : Nat) : AObj → Prop
  | .cells b => ∃ c el, w.heap[(φ k).1]? = some (.cells c el (0, 0)) ∧ (φ k).2 + b.cells.length ≤ c.size ∧ (∀ j v, b.cells[j]? = some v → c[(φ k).2 + j]? = some (ren φ κ v)) ∧ (∀ v ∈ b.cells, okV N κ v) ∧ (b.opn = true → (φ k).2 + κ k * b.esz ≤ c.size)
  | .map es clock => (φ k).2 = 0 ∧ w.heap[(φ k).1]? = some (.map (es.map (renE φ κ)).toArray clock) ∧ ∀ e ∈ es, okV N κ e.key ∧ okV N κ e.val
  | .loop r => (φ k).2 = 0 ∧ ∃ R, w.heap[(φ k).1]? = some (.loop R) ∧ LoopOK φ κ N r R
  | .deferred opn => (φ k).2 = 0 ∧ w.heap[(φ k).1]? = some (.deferred (if opn then some [] else none))

structure Rel (w0 : World) (φ : Nat → Nat × Nat) (κ : Nat → Nat) (h : AH) (w : World) : Prop where
  below : Below w0.heap.size w0 w
  hid : ∀ p ∈ h.hid, p.2 ≤ h.next
  wl : h.wlim ≤ h.next
  ent : ∀ k o, h.get k = some o → entOK φ κ h.N w k o
  own : ∀ k o, h.get k = some o → h.wlim ≤ k → w0.heap.size ≤ (φ k).1
  inj : ∀ k k' o o', h.get k = some o → h.get k' = some o' → (φ k).1 = (φ k').1 → k = k'

theorem entOK.lt {φ : Nat → Nat × Nat} {κ : Nat → Nat} {N : Nat → Prop} {w : World} {k : Nat} {o : AObj} (h : entOK φ κ N w k o) : (φ k).1 < w.heap.size := by
  cases o with
  | cells b => obtain ⟨c, el, hc, _⟩ := h; exact (Array.getElem?_eq_some_iff.1 hc).1
  | map es cl => obtain ⟨_, hc, _⟩ := h; exact (Array.getElem?_eq_some_iff.1 hc).1
  | loop r => obtain ⟨_, R, hc, _⟩ := h; exact (Array.getElem?_eq_some_iff.1 hc).1
  | deferred o => obtain ⟨_, hc⟩ := h; exact (Array.getElem?_eq_some_iff.1 hc).1

def Agree (a b : Nat) (φ : Nat → Nat × Nat) (κ : Nat → Nat) (φ' : Nat → Nat × Nat) (κ' : Nat → Nat) : Prop := ∀ k, ¬(a ≤ k ∧ k < b) → φ' k = φ k ∧ κ' k = κ k

structure Step (w0 : World) (φ : Nat → Nat × Nat) (κ : Nat → Nat) (h : AH) (φ' : Nat → Nat × Nat) (κ' : Nat → Nat) (h' : AH) (w' : World) : Prop where
  agr : Agree h.next h'.next φ κ φ' κ'
  rel : Rel w0 φ' κ' h' w'
  next : h.next ≤ h'.next
  hid : h'.hid = h.hid
  wlim : h'.wlim = h.wlim
  keep : ∀ k, k < h.wlim → h'.tr.get k = h.tr.get k

section
variable {w0 w w' w'' : World} {φ φ' φ'' : Nat → Nat × Nat} {κ κ' κ'' : Nat → Nat} {h h' h'' : AH}

theorem Rel.step (R : Rel w0 φ κ h w) : Step w0 φ κ h φ κ h w := ⟨fun _ _ => ⟨rfl, rfl⟩, R, Nat.le_refl _, rfl, rfl, fun _ _ => rfl⟩

theorem sees_lt {k : Nat} (s : h.sees k = true) : k < h.next := by
  unfold AH.sees at s
  simp only [Bool.and_eq_true, decide_eq_true_eq] at s
  exact s.1
theorem sees_mono {k : Nat} (hn : h.next ≤ h'.next) (hh : h'.hid = h.hid) (s : h.sees k = true) : h'.sees k = true := by
  unfold AH.sees at *
  rw [hh]
  simp only [Bool.and_eq_true, decide_eq_true_eq] at *
  exact ⟨by omega, s.2⟩
theorem Step.sees (S : Step w0 φ κ h φ' κ' h' w') {k : Nat} (s : h.N k) : h'.N k := sees_mono S.next S.hid s
theorem Step.agree (S : Step w0 φ κ h φ' κ' h' w') {k : Nat} (s : h.N k) : φ' k = φ k ∧ κ' k = κ k := S.agr k (by have := sees_lt s; omega)
theorem Step.ok (S : Step w0 φ κ h φ' κ' h' w') {v : Value} (o : okV h.N κ v) : okV h'.N κ' v := ok_mono (fun _ s => S.sees s) (fun _ s => (S.agree s).2) v o
theorem Step.ren (S : Step w0 φ κ h φ' κ' h' w') {v : Value} (o : okV h.N κ v) : Ev.ren φ' κ' v = Ev.ren φ κ v := ren_congr (fun _ s => S.agree s) v o
theorem Step.trans (S : Step w0 φ κ h φ' κ' h' w') (T : Step w0 φ' κ' h' φ'' κ'' h'' w'') : Step w0 φ κ h φ'' κ'' h'' w'' :=
  ⟨fun k hk => by
    have n1 := S.next
    have n2 := T.next
    by_cases h1 : h'.next ≤ k ∧ k < h''.next
    · exact absurd ⟨by omega, h1.2⟩ hk
    · by_cases h2 : h.next ≤ k ∧ k < h'.next
      · exact absurd ⟨h2.1, by omega⟩ hk
      · exact ⟨(T.agr k h1).1.trans (S.agr k h2).1, (T.agr k h1).2.trans (S.agr k h2).2⟩,
   T.rel, Nat.le_trans S.next T.next, T.hid.trans S.hid, T.wlim.trans S.wlim, fun k hk => (T.keep k (by rw [S.wlim]; exact hk)).trans (S.keep k hk)⟩

theorem get_sees {k : Nat} {o : AObj} (g : h.get k = some o) : h.sees k = true := by
  unfold AH.get at g
  split at g
  · assumption
  · cases g
theorem get_tr {k : Nat} {o : AObj} (g : h.get k = some o) : h.tr.get k = some o := by
  unfold AH.get at g
  split at g
  · exact g
  · cases g

theorem new_get (hh : ∀ p ∈ h.hid, p.2 ≤ h.next) (o : AObj) (k : Nat) : (h.new o).get k = if k = h.next then some o else h.get k := by
  unfold AH.get AH.new
  by_cases e : k = h.next
  · subst e
    have s : (⟨h.tr.put h.next (some o), h.next + 1, h.wlim, h.hid⟩ : AH).sees h.next = true := by
      unfold AH.sees
      simp only [Bool.and_eq_true, decide_eq_true_eq, Bool.not_eq_true']
      refine ⟨by omega, ?_⟩
      rw [List.any_eq_false]
      intro p hp
      have := hh p hp
      simp
      omega
    simp only [s, if_true, Tr.get_put]
  · rw [if_neg e]
    simp only [Tr.get_put, e, if_false]
    have s : (⟨h.tr.put h.next (some o), h.next + 1, h.wlim, h.hid⟩ : AH).sees k = h.sees k := by
      unfold AH.sees
      congr 1
      simp only [decide_eq_decide]
      omega
    rw [s]

def upd {α : Type} (f : Nat → α) (k : Nat) (x : α) : Nat → α := fun j => if j = k then x else f j
theorem upd_same {α : Type} (f : Nat → α) (k : Nat) (x : α) : upd f k x k = x := by simp [upd]
theorem upd_ne {α : Type} (f : Nat → α) {k j : Nat} (x : α) (h : j ≠ k) : upd f k x j = f j := by simp [upd, h]

theorem new_sees {o : AObj} {k : Nat} (s : h.sees k = true) : (h.new o).sees k = true := sees_mono (h := h) (h' := h.new o) (Nat.le_succ _) rfl s
theorem new_sees_self {o : AObj} (hh : ∀ p ∈ h.hid, p.2 ≤ h.next) : (h.new o).sees h.next = true := get_sees (h := h.new o) (o := o) (by rw [new_get hh]; simp)

/- what the entries say stays, where the names' meaning and their blocks stay -/
theorem entOK.move {N N' : Nat → Prop} {k : Nat} {o : AObj} (E : entOK φ κ N w k o) (hn : ∀ k, N k → N' k) (ha : ∀ j, N j → φ' j = φ j ∧ κ' j = κ j) (hk : φ' k = φ k ∧ κ' k = κ k) (hw : w'.heap[(φ k).1]? = w.heap[(φ k).1]?) : entOK φ' κ' N' w' k o := by
  cases o with
  | cells b =>
    obtain ⟨c, el, h1, h0, h2, h3, h4⟩ := E
    refine ⟨c, el, by rw [hk.1, hw]; exact h1, by rw [hk.1]; exact h0, fun j v hj => ?_, fun v hv => ok_mono hn (fun _ s => (ha _ s).2) v (h3 v hv), ?_⟩
    · rw [hk.1, ren_congr ha v (h3 v (List.mem_of_getElem? hj))]
      exact h2 j v hj
    · rw [hk.1, hk.2]; exact h4
  | map es cl =>
    obtain ⟨h1, h2, h3⟩ := E
    refine ⟨by rw [hk.1]; exact h1, ?_, fun e he => ⟨ok_mono hn (fun _ s => (ha _ s).2) _ (h3 e he).1, ok_mono hn (fun _ s => (ha _ s).2) _ (h3 e he).2⟩⟩
    rw [hk.1, hw, h2]
    congr 3
    apply List.map_congr_left
    intro e he
    unfold renE
    rw [ren_congr ha _ (h3 e he).1, ren_congr ha _ (h3 e he).2]
  | loop r =>
    obtain ⟨h1, R, h2, h3⟩ := E
    refine ⟨by rw [hk.1]; exact h1, R, by rw [hk.1, hw]; exact h2, ⟨h3.state, h3.pending, h3.params, h3.assign, h3.body, h3.size, fun d hd => ?_, fun d => ok_mono hn (fun _ s => (ha _ s).2) _ (h3.ok d), h3.out, ?_, hn _ h3.dok⟩⟩
    · rw [ren_congr ha _ (h3.ok d)]; exact h3.get d hd
    · rw [(ha _ h3.dok).1]; exact h3.defers
  | deferred o =>
    obtain ⟨h1, h2⟩ := E
    exact ⟨by rw [hk.1]; exact h1, by rw [hk.1, hw]; exact h2⟩

/- a new block -/
theorem Rel.push (R : Rel w0 φ κ h w) {o : AObj} {ob : Obj} {p : Nat × Nat} {K d : Nat} (hp : p.1 = w.heap.size)
    (ho : entOK (upd φ h.next p) (upd κ h.next K) (h.new o).N { w with heap := w.heap.push ob, drawn := d } h.next o) :
    Step w0 φ κ h (upd φ h.next p) (upd κ h.next K) (h.new o) { w with heap := w.heap.push ob, drawn := d } := by
  have hsz := R.below.size
  have hne : ∀ k, h.sees k = true → k ≠ h.next := fun k s e => by have := sees_lt s; omega
  have key : ∀ k o', h.get k = some o' → entOK (upd φ h.next p) (upd κ h.next K) (h.new o).N { w with heap := w.heap.push ob, drawn := d } k o' := by
    intro k o' g
    have E := R.ent k o' g
    refine E.move (fun j s => new_sees s) (fun j s => ⟨upd_ne _ _ (hne j s), upd_ne _ _ (hne j s)⟩) ⟨upd_ne _ _ (hne k (get_sees g)), upd_ne _ _ (hne k (get_sees g))⟩ ?_
    show (w.heap.push ob)[(φ k).1]? = _
    rw [Array.getElem?_push, if_neg (by have := E.lt; omega)]
  refine ⟨fun k hk => ?_, ⟨⟨R.below.os, R.below.tape, R.below.output, by simp; omega, fun k hk => ?_⟩, fun q hq => Nat.le_succ_of_le (R.hid q hq), Nat.le_succ_of_le R.wl, ?_, ?_, ?_⟩, Nat.le_succ _, rfl, rfl, fun k hk => ?_⟩
  · have : k ≠ h.next := fun e => hk ⟨by omega, by subst e; exact Nat.lt_succ_self _⟩
    exact ⟨upd_ne _ _ this, upd_ne _ _ this⟩
  · rw [← R.below.block k hk]
    show (w.heap.push ob)[k]? = _
    rw [Array.getElem?_push, if_neg (by omega)]
  · intro k o' g
    rw [new_get R.hid] at g
    by_cases e : k = h.next
    · subst e
      rw [if_pos rfl] at g
      injection g with g
      subst g
      exact ho
    · rw [if_neg e] at g
      exact key k o' g
  · intro k o' g hk
    rw [new_get R.hid] at g
    by_cases e : k = h.next
    · subst e
      rw [upd_same, hp]
      exact hsz
    · rw [if_neg e] at g
      rw [upd_ne _ _ e]
      exact R.own k o' g hk
  · intro k k' o1 o2 g g' e
    rw [new_get R.hid] at g g'
    by_cases e1 : k = h.next
    · by_cases e2 : k' = h.next
      · rw [e1, e2]
      · rw [if_neg e2] at g'
        have := (R.ent k' o2 g').lt
        rw [e1, upd_same, upd_ne _ _ e2, hp] at e
        omega
    · rw [if_neg e1] at g
      by_cases e2 : k' = h.next
      · have := (R.ent k o1 g).lt
        rw [e2, upd_same, upd_ne _ _ e1, hp] at e
        omega
      · rw [if_neg e2] at g'
        rw [upd_ne _ _ e1, upd_ne _ _ e2] at e
        exact R.inj k k' o1 o2 g g' e
  · show (h.tr.put h.next (some o)).get k = _
    rw [Tr.get_put, if_neg (by have := R.wl; omega)]

theorem put_sees {o : Option AObj} {k j : Nat} : (h.put k o).sees j = h.sees j := rfl
theorem put_next (h : AH) (k : Nat) (o : Option AObj) : (h.put k o).next = h.next := rfl
theorem put_wlim (h : AH) (k : Nat) (o : Option AObj) : (h.put k o).wlim = h.wlim := rfl
theorem put_hid (h : AH) (k : Nat) (o : Option AObj) : (h.put k o).hid = h.hid := rfl
theorem put_tr (h : AH) (k : Nat) (o : Option AObj) : (h.put k o).tr = h.tr.put k o := rfl
theorem new_next (h : AH) (o : AObj) : (h.new o).next = h.next + 1 := rfl
theorem new_wlim (h : AH) (o : AObj) : (h.new o).wlim = h.wlim := rfl
theorem new_hid (h : AH) (o : AObj) : (h.new o).hid = h.hid := rfl
theorem new_tr (h : AH) (o : AObj) : (h.new o).tr = h.tr.put h.next (some o) := rfl
theorem put_N (h : AH) (k : Nat) (o : Option AObj) : (h.put k o).N = h.N := by
  funext j
  unfold AH.N
  rw [put_sees]
theorem put_get {o : Option AObj} {k j : Nat} (s : h.sees k = true) : (h.put k o).get j = if j = k then o else h.get j := by
  unfold AH.get
  rw [put_sees]
  unfold AH.put
  simp only [Tr.get_put]
  by_cases e : j = k
  · subst e; simp [s]
  · simp [e]

/- a block written -/
theorem Rel.write (R : Rel w0 φ κ h w) {k : Nat} {o o' : AObj} {ob : Obj} (g : h.get k = some o) (hk : h.wlim ≤ k)
    (ho : entOK φ κ h.N { w with heap := w.heap.setIfInBounds (φ k).1 ob } k o') :
    Step w0 φ κ h φ κ (h.put k (some o')) { w with heap := w.heap.setIfInBounds (φ k).1 ob } := by
  have hlt := (R.ent k o g).lt
  have hown := R.own k o g hk
  refine ⟨fun _ _ => ⟨rfl, rfl⟩, ⟨⟨R.below.os, R.below.tape, R.below.output, by simpa using R.below.size, fun j hj => ?_⟩, R.hid, R.wl, ?_, ?_, ?_⟩, Nat.le_refl _, rfl, rfl, fun j hj => ?_⟩
  · rw [← R.below.block j hj]
    show (w.heap.setIfInBounds (φ k).1 ob)[j]? = _
    rw [Array.getElem?_setIfInBounds_ne (by omega)]
  · intro j oj gj
    rw [put_get (get_sees g)] at gj
    by_cases e : j = k
    · subst e
      rw [if_pos rfl] at gj
      injection gj with gj
      subst gj
      exact ho
    · rw [if_neg e] at gj
      refine (R.ent j oj gj).move (fun _ s => s) (fun _ _ => ⟨rfl, rfl⟩) ⟨rfl, rfl⟩ ?_
      show (w.heap.setIfInBounds (φ k).1 ob)[(φ j).1]? = _
      rw [Array.getElem?_setIfInBounds_ne (fun e2 => e (R.inj j k oj o gj g e2.symm))]
  · intro j oj gj hj
    rw [put_get (get_sees g)] at gj
    by_cases e : j = k
    · subst e; exact hown
    · rw [if_neg e] at gj; exact R.own j oj gj hj
  · intro j j' o1 o2 g1 g2 e
    rw [put_get (get_sees g)] at g1 g2
    have h1 : ∃ o, h.get j = some o := by
      by_cases e1 : j = k
      · exact ⟨o, e1 ▸ g⟩
      · rw [if_neg e1] at g1; exact ⟨_, g1⟩
    have h2 : ∃ o, h.get j' = some o := by
      by_cases e1 : j' = k
      · exact ⟨o, e1 ▸ g⟩
      · rw [if_neg e1] at g2; exact ⟨_, g2⟩
    obtain ⟨_, h1⟩ := h1
    obtain ⟨_, h2⟩ := h2
    exact R.inj j j' _ _ h1 h2 e
  · show (h.tr.put k _).get j = _
    rw [Tr.get_put, if_neg (by omega)]

/- a name struck -/
theorem Rel.kill (R : Rel w0 φ κ h w) {k : Nat} {o : AObj} (g : h.get k = some o) (hk : h.wlim ≤ k) : Step w0 φ κ h φ κ (h.put k none) w := by
  have hle : ∀ j oj, (h.put k none).get j = some oj → h.get j = some oj := by
    intro j oj gj
    rw [put_get (get_sees g)] at gj
    by_cases e : j = k
    · rw [if_pos e] at gj; cases gj
    · rw [if_neg e] at gj; exact gj
  refine ⟨fun _ _ => ⟨rfl, rfl⟩, ⟨R.below, R.hid, R.wl, fun j oj gj => ?_, fun j oj gj => R.own j oj (hle j oj gj), fun j j' o1 o2 g1 g2 => R.inj j j' o1 o2 (hle _ _ g1) (hle _ _ g2)⟩, Nat.le_refl _, rfl, rfl, fun j hj => ?_⟩
  · exact R.ent j oj (hle j oj gj)
  · show (h.tr.put k _).get j = _
    rw [Tr.get_put, if_neg (by omega)]

/- a second name for a block that no other name stands for -/
theorem Rel.name (R : Rel w0 φ κ h w) {o : AObj} {p : Nat × Nat} {K : Nat} (hown : w0.heap.size ≤ p.1) (hfree : ∀ k o', h.get k = some o' → (φ k).1 ≠ p.1)
    (ho : entOK (upd φ h.next p) (upd κ h.next K) (h.new o).N w h.next o) :
    Step w0 φ κ h (upd φ h.next p) (upd κ h.next K) (h.new o) w := by
  have hne : ∀ k, h.sees k = true → k ≠ h.next := fun k s e => by have := sees_lt s; omega
  refine ⟨fun k hk => ?_, ⟨R.below, fun q hq => Nat.le_succ_of_le (R.hid q hq), Nat.le_succ_of_le R.wl, ?_, ?_, ?_⟩, Nat.le_succ _, rfl, rfl, fun k hk => ?_⟩
  · have : k ≠ h.next := fun e => hk ⟨by omega, by subst e; exact Nat.lt_succ_self _⟩
    exact ⟨upd_ne _ _ this, upd_ne _ _ this⟩
  · intro k o' g
    rw [new_get R.hid] at g
    by_cases e : k = h.next
    · subst e
      rw [if_pos rfl] at g
      injection g with g
      subst g
      exact ho
    · rw [if_neg e] at g
      exact (R.ent k o' g).move (fun j s => new_sees s) (fun j s => ⟨upd_ne _ _ (hne j s), upd_ne _ _ (hne j s)⟩) ⟨upd_ne _ _ (hne k (get_sees g)), upd_ne _ _ (hne k (get_sees g))⟩ rfl
  · intro k o' g hk
    rw [new_get R.hid] at g
    by_cases e : k = h.next
    · subst e
      rw [upd_same]
      exact hown
    · rw [if_neg e] at g
      rw [upd_ne _ _ e]
      exact R.own k o' g hk
  · intro k k' o1 o2 g g' e
    rw [new_get R.hid] at g g'
    by_cases e1 : k = h.next
    · by_cases e2 : k' = h.next
      · rw [e1, e2]
      · rw [if_neg e2] at g'
        rw [e1, upd_same, upd_ne _ _ e2] at e
        exact absurd e.symm (hfree k' o2 g')
    · rw [if_neg e1] at g
      by_cases e2 : k' = h.next
      · rw [e2, upd_same, upd_ne _ _ e1] at e
        exact absurd e (hfree k o1 g)
      · rw [if_neg e2] at g'
        rw [upd_ne _ _ e1, upd_ne _ _ e2] at e
        exact R.inj k k' o1 o2 g g' e
  · show (h.tr.put h.next (some o)).get k = _
    rw [Tr.get_put, if_neg (by have := R.wl; omega)]

/- a name that nothing is known of -/
def AH.bump (h : AH) : AH := { h with tr := h.tr.put h.next none, next := h.next + 1 }
theorem Rel.bump (R : Rel w0 φ κ h w) (p : Nat × Nat) (K : Nat) : Step w0 φ κ h (upd φ h.next p) (upd κ h.next K) h.bump w := by
  have hne : ∀ k, h.sees k = true → k ≠ h.next := fun k s e => by have := sees_lt s; omega
  have hget : ∀ k o, h.bump.get k = some o → h.get k = some o := by
    intro k o g
    have g2 := get_tr g
    have hs := get_sees g
    have g3 : (h.tr.put h.next none).get k = some o := g2
    rw [Tr.get_put] at g3
    by_cases e : k = h.next
    · rw [if_pos e] at g3; cases g3
    · rw [if_neg e] at g3
      unfold AH.get
      have : h.sees k = true := by
        unfold AH.sees at hs ⊢
        rw [Bool.and_eq_true, decide_eq_true_eq] at hs ⊢
        have h1 : k < h.next + 1 := hs.1
        exact ⟨by omega, hs.2⟩
      rw [if_pos this]
      exact g3
  refine ⟨fun k hk => ?_, ⟨R.below, fun q hq => Nat.le_succ_of_le (R.hid q hq), Nat.le_succ_of_le R.wl, fun k o g => ?_, fun k o g hk => ?_, fun k k' o o' g g' e => ?_⟩, Nat.le_succ _, rfl, rfl, fun k hk => ?_⟩
  · have : k ≠ h.next := fun e => hk ⟨by omega, by subst e; exact Nat.lt_succ_self _⟩
    exact ⟨upd_ne _ _ this, upd_ne _ _ this⟩
  · have g' := hget k o g
    exact (R.ent k o g').move (fun j s => sees_mono (h := h) (h' := h.bump) (Nat.le_succ _) rfl s) (fun j s => ⟨upd_ne _ _ (hne j s), upd_ne _ _ (hne j s)⟩) ⟨upd_ne _ _ (hne k (get_sees g')), upd_ne _ _ (hne k (get_sees g'))⟩ rfl
  · have g' := hget k o g
    rw [upd_ne _ _ (hne k (get_sees g'))]
    exact R.own k o g' hk
  · have g1 := hget k o g
    have g2 := hget k' o' g'
    rw [upd_ne _ _ (hne k (get_sees g1)), upd_ne _ _ (hne k' (get_sees g2))] at e
    exact R.inj k k' o o' g1 g2 e
  · show (h.tr.put h.next none).get k = _
    rw [Tr.get_put, if_neg (by have := R.wl; omega)]
theorem bump_sees (hh : ∀ p ∈ h.hid, p.2 ≤ h.next) : h.bump.sees h.next = true := by
  have := new_sees_self (h := h) (o := .deferred true) hh
  exact this
end
end Go.Ev
