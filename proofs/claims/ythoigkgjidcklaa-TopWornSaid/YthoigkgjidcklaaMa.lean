/-
  Walks on memory by names: the machine (Ma).
-/
import Derived.Calls
import Derived.Orders
import Derived.LoopN
import Derived.Below
import Derived.Laws.CopyRow
import Derived.Laws.Cells
import Derived.Laws.Entries
import Derived.ChangeKeysEq
import Derived.Tactics
import Derived.TacticsIn
import Derived.RangeFuncCalls
set_option linter.unusedSimpArgs false
set_option linter.unusedVariables false
/- VmA: A machine for closed runs, first part: tries, names, values under a renaming. -/
namespace Go.Vm
open Go Go.RowKit

inductive Tr (α : Type) where
  | leaf
  | node (l : Tr α) (v : Option α) (r : Tr α)

def Tr.get {α : Type} : Tr α → Nat → Option α
  | .leaf, _ => none
  | .node l v r, n => if n = 0 then v else if n % 2 = 1 then l.get (n / 2) else r.get (n / 2 - 1)

def Tr.set {α : Type} : Nat → Tr α → Nat → Option α → Tr α
  | 0, t, _, _ => t
  | f + 1, .leaf, n, x => if n = 0 then .node .leaf x .leaf else if n % 2 = 1 then .node (Tr.set f .leaf (n / 2) x) none .leaf else .node .leaf none (Tr.set f .leaf (n / 2 - 1) x)
  | f + 1, .node l v r, n, x => if n = 0 then .node l x r else if n % 2 = 1 then .node (Tr.set f l (n / 2) x) v r else .node l v (Tr.set f r (n / 2 - 1) x)

theorem Tr.get_leaf {α : Type} (n : Nat) : (Tr.leaf : Tr α).get n = none := rfl

theorem Tr.get_set {α : Type} (f : Nat) : ∀ (t : Tr α) (n m : Nat) (x : Option α), n < f → (Tr.set f t n x).get m = if m = n then x else t.get m := by
  induction f with
  | zero => intro t n m x h; omega
  | succ f ih =>
    intro t n m x h
    cases t with
    | leaf =>
      simp only [Tr.set]
      by_cases hn : n = 0
      · subst hn
        by_cases hm : m = 0
        · simp [Tr.get, hm]
        · simp [Tr.get, hm]
      · simp only [hn, if_false]
        by_cases hp : n % 2 = 1
        · simp only [hp, if_true, Tr.get]
          by_cases hm : m = 0
          · subst hm; rw [if_pos rfl, if_neg (by omega)]
          · rw [if_neg hm]
            by_cases hq : m % 2 = 1
            · rw [if_pos hq, ih _ _ _ _ (by omega)]
              by_cases e : m / 2 = n / 2
              · rw [if_pos e, if_pos (by omega)]
              · rw [if_neg e, if_neg (by omega)]; rfl
            · rw [if_neg hq, if_neg (by omega)]
        · simp only [hp, if_false, Tr.get]
          by_cases hm : m = 0
          · subst hm; rw [if_pos rfl, if_neg (by omega)]
          · rw [if_neg hm]
            by_cases hq : m % 2 = 1
            · rw [if_pos hq, if_neg (by omega)]
            · rw [if_neg hq, ih _ _ _ _ (by omega)]
              by_cases e : m / 2 - 1 = n / 2 - 1
              · rw [if_pos e, if_pos (by omega)]
              · rw [if_neg e, if_neg (by omega)]; rfl
    | node l v r =>
      simp only [Tr.set]
      by_cases hn : n = 0
      · subst hn
        by_cases hm : m = 0
        · simp [Tr.get, hm]
        · simp [Tr.get, hm]
      · simp only [hn, if_false]
        by_cases hp : n % 2 = 1
        · simp only [hp, if_true, Tr.get]
          by_cases hm : m = 0
          · subst hm; rw [if_pos rfl, if_neg (by omega), if_pos rfl]
          · rw [if_neg hm]
            by_cases hq : m % 2 = 1
            · rw [if_pos hq, ih _ _ _ _ (by omega)]
              by_cases e : m / 2 = n / 2
              · rw [if_pos e, if_pos (by omega)]
              · rw [if_neg e, if_neg (by omega), if_neg hm, if_pos hq]
            · rw [if_neg hq, if_neg (by omega), if_neg hm, if_neg hq]
        · simp only [hp, if_false, Tr.get]
          by_cases hm : m = 0
          · subst hm; rw [if_pos rfl, if_neg (by omega), if_pos rfl]
          · rw [if_neg hm]
            by_cases hq : m % 2 = 1
            · rw [if_pos hq, if_neg (by omega), if_neg hm, if_pos hq]
            · rw [if_neg hq, ih _ _ _ _ (by omega)]
              by_cases e : m / 2 - 1 = n / 2 - 1
              · rw [if_pos e, if_pos (by omega)]
              · rw [if_neg e, if_neg (by omega), if_neg hm, if_neg hq]

def Tr.put {α : Type} (t : Tr α) (n : Nat) (x : Option α) : Tr α := Tr.set (n + 1) t n x
theorem Tr.get_put {α : Type} (t : Tr α) (n m : Nat) (x : Option α) : (t.put n x).get m = if m = n then x else t.get m := Tr.get_set _ _ _ _ _ (Nat.lt_succ_self n)

/- what runs without a look at the world -/
def pureRun {α : Type} (P : Program) : Sem α → Option α
  | .pure a => some a
  | .program k => pureRun P (k P)
  | _ => none

theorem pureRun_run {α : Type} {P : Program} {w : World} : ∀ {s : Sem α} {a : α}, pureRun P s = some a → s.run P w = .ok a w := by
  intro s
  induction s with
  | pure a => intro b h; simp only [pureRun, Option.some.injEq] at h; subst h; rfl
  | program k ih => intro b h; simp only [pureRun] at h; simp only [Sem.run]; exact ih _ h
  | _ => intro b h; simp [pureRun] at h

/- names: φ says which block, and from where on, a name stands for; κ how many elements an open block bears -/
@[irreducible] def openB : Nat := 1267650600228229401496703205376

def renF (φ : Nat → Nat × Nat) : Fn → Fn
  | .yield k => .yield (φ k).1
  | f => f
def okF (N : Nat → Prop) : Fn → Prop
  | .yield k => N k
  | _ => True
def noYield : Fn → Bool
  | .yield _ => false
  | _ => true
theorem renF_no (φ : Nat → Nat × Nat) {f : Fn} (h : noYield f = true) : renF φ f = f := by cases f <;> first | rfl | (simp [noYield] at h)
theorem okF_no (N : Nat → Prop) {f : Fn} (h : noYield f = true) : okF N f := by cases f <;> first | trivial | (simp [noYield] at h)
theorem renF_congr {N : Nat → Prop} {φ φ' : Nat → Nat × Nat} (hc : ∀ k, N k → φ' k = φ k) {f : Fn} (h : okF N f) : renF φ' f = renF φ f := by
  cases f with
  | yield k => simp only [renF, hc k h]
  | _ => rfl
theorem okF_mono {N N' : Nat → Prop} (hn : ∀ k, N k → N' k) {f : Fn} (h : okF N f) : okF N' f := by
  cases f with
  | yield k => exact hn k h
  | _ => trivial

/- pairs of numbers, one behind the other -/
def un : Nat → Nat × Nat
  | 0 => (0, 0)
  | n + 1 => let p := un n; if p.1 = 0 then (p.2 + 1, 0) else (p.1 - 1, p.2 + 1)
theorem un_diag : ∀ s, ∃ n, un n = (s, 0)
  | 0 => ⟨0, rfl⟩
  | s + 1 => by
    obtain ⟨n, hn⟩ := un_diag s
    have key : ∀ b, b ≤ s → ∃ n, un n = (s - b, b) := by
      intro b
      induction b with
      | zero => intro _; exact ⟨n, hn⟩
      | succ b ih =>
        intro hb
        obtain ⟨m, hm⟩ := ih (by omega)
        refine ⟨m + 1, ?_⟩
        simp only [un, hm]
        rw [if_neg (by omega)]
        congr 1
    obtain ⟨m, hm⟩ := key s (Nat.le_refl _)
    refine ⟨m + 1, ?_⟩
    simp only [un, hm, Nat.sub_self, if_true]
theorem un_sur (a b : Nat) : ∃ n, un n = (a, b) := by
  obtain ⟨n, hn⟩ := un_diag (a + b)
  have key : ∀ c, c ≤ a + b → ∃ n, un n = (a + b - c, c) := by
    intro c
    induction c with
    | zero => intro _; exact ⟨n, hn⟩
    | succ c ih =>
      intro hb
      obtain ⟨m, hm⟩ := ih (by omega)
      refine ⟨m + 1, ?_⟩
      simp only [un, hm]
      rw [if_neg (by omega)]
      congr 1
  obtain ⟨m, hm⟩ := key b (by omega)
  exact ⟨m, by rw [hm]; congr 1; omega⟩
/- which address a name without room stands for -/
def dec (m : Nat) : Option Addr := match un m with
  | (0, _) => none
  | (b + 1, r) => some ⟨b, (un r).1, match (un r).2 with
    | 0 => none
    | s + 1 => some s⟩
theorem dec_sur (x : Option Addr) : ∃ m, dec m = x := by
  cases x with
  | none => exact ⟨0, rfl⟩
  | some a =>
    obtain ⟨b, o, s⟩ := a
    obtain ⟨r, hr⟩ := un_sur o (match s with | none => 0 | some s => s + 1)
    obtain ⟨m, hm⟩ := un_sur (b + 1) r
    refine ⟨m, ?_⟩
    unfold dec
    rw [hm]
    simp only [hr]
    cases s <;> rfl
theorem dec_0 : dec 0 = none := rfl

mutual
def ren (φ : Nat → Nat × Nat) (κ : Nat → Nat) : Value → Value
  | .pointer (some a) => .pointer (some ⟨(φ a.block).1, (φ a.block).2 + a.off, a.spot⟩)
  | .slice (some a) n c => if κ a.block = 0 then .slice (dec (φ a.block).1) n 0 else .slice (some ⟨(φ a.block).1, (φ a.block).2 + a.off, a.spot⟩) n (if c < openB then c else κ a.block - 1 - (c - openB))
  | .map (some r) => .map (some (φ r).1)
  | .func fn first captured => .func (renF φ fn) (renA φ κ first) (renA φ κ captured)
  | .iface t v => .iface t (ren φ κ v)
  | .agg cs => .agg (renA φ κ cs)
  | .tuple vs => .tuple (renA φ κ vs)
  | v => v
def renA (φ : Nat → Nat × Nat) (κ : Nat → Nat) : Array Value → Array Value
  | ⟨l⟩ => ⟨renL φ κ l⟩
def renL (φ : Nat → Nat × Nat) (κ : Nat → Nat) : List Value → List Value
  | [] => []
  | v :: r => ren φ κ v :: renL φ κ r
end

mutual
def okV (N : Nat → Prop) (κ : Nat → Nat) : Value → Prop
  | .pointer (some a) => N a.block ∧ κ a.block ≠ 0
  | .slice (some a) n c => N a.block ∧ (κ a.block = 0 → n = 0 ∧ (c < openB → c = 0)) ∧ (openB ≤ c → (c - openB) + n ≤ κ a.block - 1)
  | .map (some r) => N r
  | .func fn first captured => okF N fn ∧ okA N κ first ∧ okA N κ captured
  | .iface _ v => okV N κ v
  | .agg cs => okA N κ cs
  | .tuple vs => okA N κ vs
  | .chan (some _) => False
  | _ => True
def okA (N : Nat → Prop) (κ : Nat → Nat) : Array Value → Prop
  | ⟨l⟩ => okL N κ l
def okL (N : Nat → Prop) (κ : Nat → Nat) : List Value → Prop
  | [] => True
  | v :: r => okV N κ v ∧ okL N κ r
end

mutual
def noAddr : Value → Bool
  | .pointer (some _) => false
  | .slice (some _) _ _ => false
  | .map (some _) => false
  | .func fn first captured => noYield fn && (noAddrA first && noAddrA captured)
  | .iface _ v => noAddr v
  | .agg cs => noAddrA cs
  | .tuple vs => noAddrA vs
  | .chan (some _) => false
  | _ => true
def noAddrA : Array Value → Bool
  | ⟨l⟩ => noAddrL l
def noAddrL : List Value → Bool
  | [] => true
  | v :: r => noAddr v && noAddrL r
end

theorem renL_map (φ : Nat → Nat × Nat) (κ : Nat → Nat) (l : List Value) : renL φ κ l = l.map (ren φ κ) := by
  induction l with
  | nil => rfl
  | cons v r ih => simp [renL, ih]
theorem renA_map (φ : Nat → Nat × Nat) (κ : Nat → Nat) (a : Array Value) : renA φ κ a = a.map (ren φ κ) := by
  cases a; simp [renA, renL_map]
theorem okL_iff {N : Nat → Prop} {κ : Nat → Nat} {l : List Value} : okL N κ l ↔ ∀ v ∈ l, okV N κ v := by
  induction l with
  | nil => simp [okL]
  | cons v r ih => simp [okL, ih]
theorem okA_iff {N : Nat → Prop} {κ : Nat → Nat} {a : Array Value} : okA N κ a ↔ ∀ v ∈ a.toList, okV N κ v := by
  cases a; simp [okA, okL_iff]

mutual
theorem ren_noAddr (φ : Nat → Nat × Nat) (κ : Nat → Nat) : ∀ (v : Value), noAddr v = true → ren φ κ v = v
  | .pointer none, _ => by simp [ren]
  | .pointer (some _), h => by simp [noAddr] at h
  | .slice none _ _, _ => by simp [ren]
  | .slice (some _) _ _, h => by simp [noAddr] at h
  | .map none, _ => by simp [ren]
  | .map (some _), h => by simp [noAddr] at h
  | .func _ first captured, h => by
    simp only [noAddr, Bool.and_eq_true] at h
    simp only [ren, renF_no φ h.1, renA_noAddr φ κ first h.2.1, renA_noAddr φ κ captured h.2.2]
  | .iface _ v, h => by simp only [noAddr] at h; simp only [ren, ren_noAddr φ κ v h]
  | .agg cs, h => by simp only [noAddr] at h; simp only [ren, renA_noAddr φ κ cs h]
  | .tuple cs, h => by simp only [noAddr] at h; simp only [ren, renA_noAddr φ κ cs h]
  | .chan _, _ => by simp [ren]
  | .bool _, _ => by simp [ren]
  | .int _ _, _ => by simp [ren]
  | .float _ _, _ => by simp [ren]
  | .complex _ _ _, _ => by simp [ren]
  | .string _, _ => by simp [ren]
  | .nilFunc, _ => by simp [ren]
  | .nilIface, _ => by simp [ren]
theorem renA_noAddr (φ : Nat → Nat × Nat) (κ : Nat → Nat) : ∀ (a : Array Value), noAddrA a = true → renA φ κ a = a
  | ⟨l⟩, h => by simp only [noAddrA] at h; simp only [renA, renL_noAddr φ κ l h]
theorem renL_noAddr (φ : Nat → Nat × Nat) (κ : Nat → Nat) : ∀ (l : List Value), noAddrL l = true → renL φ κ l = l
  | [], _ => rfl
  | v :: r, h => by
    simp only [noAddrL, Bool.and_eq_true] at h
    simp only [renL, ren_noAddr φ κ v h.1, renL_noAddr φ κ r h.2]
end

mutual
theorem ok_noAddr (N : Nat → Prop) (κ : Nat → Nat) : ∀ (v : Value), noAddr v = true → okV N κ v
  | .pointer none, _ => by simp [okV]
  | .pointer (some _), h => by simp [noAddr] at h
  | .slice none _ _, _ => by simp [okV]
  | .slice (some _) _ _, h => by simp [noAddr] at h
  | .map none, _ => by simp [okV]
  | .map (some _), h => by simp [noAddr] at h
  | .func _ first captured, h => by
    simp only [noAddr, Bool.and_eq_true] at h
    exact ⟨okF_no N h.1, okA_noAddr N κ first h.2.1, okA_noAddr N κ captured h.2.2⟩
  | .iface _ v, h => by simp only [noAddr] at h; exact ok_noAddr N κ v h
  | .agg cs, h => by simp only [noAddr] at h; exact okA_noAddr N κ cs h
  | .tuple cs, h => by simp only [noAddr] at h; exact okA_noAddr N κ cs h
  | .chan none, _ => by simp [okV]
  | .chan (some _), h => by simp [noAddr] at h
  | .bool _, _ => by simp [okV]
  | .int _ _, _ => by simp [okV]
  | .float _ _, _ => by simp [okV]
  | .complex _ _ _, _ => by simp [okV]
  | .string _, _ => by simp [okV]
  | .nilFunc, _ => by simp [okV]
  | .nilIface, _ => by simp [okV]
theorem okA_noAddr (N : Nat → Prop) (κ : Nat → Nat) : ∀ (a : Array Value), noAddrA a = true → okA N κ a
  | ⟨l⟩, h => by simp only [noAddrA] at h; exact okL_noAddr N κ l h
theorem okL_noAddr (N : Nat → Prop) (κ : Nat → Nat) : ∀ (l : List Value), noAddrL l = true → okL N κ l
  | [], _ => trivial
  | v :: r, h => by
    simp only [noAddrL, Bool.and_eq_true] at h
    exact ⟨ok_noAddr N κ v h.1, okL_noAddr N κ r h.2⟩
end

mutual
theorem ren_congr {N : Nat → Prop} {φ φ' : Nat → Nat × Nat} {κ κ' : Nat → Nat} (hc : ∀ k, N k → φ' k = φ k ∧ κ' k = κ k) : ∀ (v : Value), okV N κ v → ren φ' κ' v = ren φ κ v
  | .pointer none, _ => by simp [ren]
  | .pointer (some a), h => by simp only [okV] at h; simp only [ren, (hc _ h.1).1]
  | .slice none _ _, _ => by simp [ren]
  | .slice (some a) _ _, h => by simp only [okV] at h; simp only [ren, (hc _ h.1).1, (hc _ h.1).2]
  | .map none, _ => by simp [ren]
  | .map (some r), h => by simp only [okV] at h; simp only [ren, (hc _ h).1]
  | .func _ first captured, h => by
    simp only [okV] at h
    simp only [ren, renF_congr (fun k hk => (hc k hk).1) h.1, renA_congr hc first h.2.1, renA_congr hc captured h.2.2]
  | .iface _ v, h => by simp only [okV] at h; simp only [ren, ren_congr hc v h]
  | .agg cs, h => by simp only [okV] at h; simp only [ren, renA_congr hc cs h]
  | .tuple cs, h => by simp only [okV] at h; simp only [ren, renA_congr hc cs h]
  | .chan _, _ => by simp [ren]
  | .bool _, _ => by simp [ren]
  | .int _ _, _ => by simp [ren]
  | .float _ _, _ => by simp [ren]
  | .complex _ _ _, _ => by simp [ren]
  | .string _, _ => by simp [ren]
  | .nilFunc, _ => by simp [ren]
  | .nilIface, _ => by simp [ren]
theorem renA_congr {N : Nat → Prop} {φ φ' : Nat → Nat × Nat} {κ κ' : Nat → Nat} (hc : ∀ k, N k → φ' k = φ k ∧ κ' k = κ k) : ∀ (a : Array Value), okA N κ a → renA φ' κ' a = renA φ κ a
  | ⟨l⟩, h => by simp only [okA] at h; simp only [renA, renL_congr hc l h]
theorem renL_congr {N : Nat → Prop} {φ φ' : Nat → Nat × Nat} {κ κ' : Nat → Nat} (hc : ∀ k, N k → φ' k = φ k ∧ κ' k = κ k) : ∀ (l : List Value), okL N κ l → renL φ' κ' l = renL φ κ l
  | [], _ => rfl
  | v :: r, h => by
    simp only [okL] at h
    simp only [renL, ren_congr hc v h.1, renL_congr hc r h.2]
end

mutual
theorem ok_mono {N N' : Nat → Prop} {κ κ' : Nat → Nat} (hn : ∀ k, N k → N' k) (hc : ∀ k, N k → κ' k = κ k) : ∀ (v : Value), okV N κ v → okV N' κ' v
  | .pointer none, _ => by simp [okV]
  | .pointer (some a), h => by simp only [okV] at h ⊢; exact ⟨hn _ h.1, by rw [hc _ h.1]; exact h.2⟩
  | .slice none _ _, _ => by simp [okV]
  | .slice (some a) _ _, h => by simp only [okV] at h ⊢; exact ⟨hn _ h.1, by rw [hc _ h.1]; exact h.2⟩
  | .map none, _ => by simp [okV]
  | .map (some r), h => by simp only [okV] at h ⊢; exact hn _ h
  | .func _ first captured, h => by
    simp only [okV] at h ⊢
    exact ⟨okF_mono hn h.1, okA_mono hn hc first h.2.1, okA_mono hn hc captured h.2.2⟩
  | .iface _ v, h => by simp only [okV] at h ⊢; exact ok_mono hn hc v h
  | .agg cs, h => by simp only [okV] at h ⊢; exact okA_mono hn hc cs h
  | .tuple cs, h => by simp only [okV] at h ⊢; exact okA_mono hn hc cs h
  | .chan none, _ => by simp [okV]
  | .chan (some _), h => by simp [okV] at h
  | .bool _, _ => by simp [okV]
  | .int _ _, _ => by simp [okV]
  | .float _ _, _ => by simp [okV]
  | .complex _ _ _, _ => by simp [okV]
  | .string _, _ => by simp [okV]
  | .nilFunc, _ => by simp [okV]
  | .nilIface, _ => by simp [okV]
theorem okA_mono {N N' : Nat → Prop} {κ κ' : Nat → Nat} (hn : ∀ k, N k → N' k) (hc : ∀ k, N k → κ' k = κ k) : ∀ (a : Array Value), okA N κ a → okA N' κ' a
  | ⟨l⟩, h => by simp only [okA] at h ⊢; exact okL_mono hn hc l h
theorem okL_mono {N N' : Nat → Prop} {κ κ' : Nat → Nat} (hn : ∀ k, N k → N' k) (hc : ∀ k, N k → κ' k = κ k) : ∀ (l : List Value), okL N κ l → okL N' κ' l
  | [], _ => trivial
  | v :: r, h => by
    simp only [okL] at h ⊢
    exact ⟨ok_mono hn hc v h.1, okL_mono hn hc r h.2⟩
end

theorem ren_cells (φ : Nat → Nat × Nat) (κ : Nat → Nat) (v : Value) : (ren φ κ v).cells = v.cells.map (ren φ κ) := by
  cases v with
  | agg cs => simp [ren, Value.cells, renA_map]
  | pointer a => cases a <;> simp [ren, Value.cells]
  | slice a n c =>
    cases a with
    | none => simp [ren, Value.cells]
    | some a =>
      simp only [ren]
      split <;> simp_all [Value.cells, ren]
  | map a => cases a <;> simp [ren, Value.cells]
  | _ => simp [ren, Value.cells]
theorem ok_cells {N : Nat → Prop} {κ : Nat → Nat} {v : Value} (h : okV N κ v) : ∀ x ∈ v.cells.toList, okV N κ x := by
  cases v with
  | agg cs => simp only [okV] at h; simpa [Value.cells] using okA_iff.1 h
  | _ => simp [Value.cells]; exact h

/- a value that one cell can hold -/
def flat : Value → Bool
  | .agg _ | .tuple _ => false
  | _ => true
theorem flat_ren (φ : Nat → Nat × Nat) (κ : Nat → Nat) (v : Value) : flat (ren φ κ v) = flat v := by
  cases v with
  | pointer a => cases a <;> simp [ren, flat]
  | slice a n c =>
    cases a with
    | none => simp [ren, flat]
    | some a =>
      simp only [ren]
      split <;> rfl
  | map a => cases a <;> simp [ren, flat]
  | _ => simp [ren, flat]
end Go.Vm

/- VmB: A machine for closed runs, second part: memory by names, and how it stands to a world. -/
namespace Go.Vm
open Go Go.RowKit

structure Blk where
  cells : List Value
  esz : Nat
  opn : Bool
structure ALoop where
  state : LoopState
  pending : Option Code
  t : Tr Value
  nt : Nat
  params : Array Tmp
  assign : Code
  body : Code
  defers : Nat
inductive AObj where
  | cells (b : Blk)
  | map (es : List MapEntry) (clock : Nat)
  | loop (r : ALoop)
  | deferred (opn : Bool)
  | iter (m since : Nat) (seen : Array Nat) (last : Nat)
structure AH where
  tr : Tr AObj
  next : Nat
  wlim : Nat
  hid : List (Nat × Nat)

def AH.sees (h : AH) (k : Nat) : Bool := decide (k < h.next) && !(h.hid.any fun p => decide (p.1 ≤ k) && decide (k < p.2))
def AH.get (h : AH) (k : Nat) : Option AObj := if h.sees k then h.tr.get k else none
def AH.new (h : AH) (o : AObj) : AH := { h with tr := h.tr.put h.next (some o), next := h.next + 1 }
def AH.put (h : AH) (k : Nat) (o : Option AObj) : AH := { h with tr := h.tr.put k o }
def AH.N (h : AH) (k : Nat) : Prop := h.sees k = true

def renE (φ : Nat → Nat × Nat) (κ : Nat → Nat) (e : MapEntry) : MapEntry := ⟨ren φ κ e.key, ren φ κ e.val, e.born⟩

structure LoopOK (φ : Nat → Nat × Nat) (κ : Nat → Nat) (N : Nat → Prop) (r : ALoop) (R : Loop) : Prop where
  state : R.state = r.state
  pending : R.pending = r.pending
  params : R.params = r.params
  assign : R.assign = r.assign
  body : R.body = r.body
  size : R.tmps.size = r.nt
  get : ∀ d v, r.t.get d = some v → R.tmps[d]? = some (ren φ κ v)
  ok : ∀ d v, r.t.get d = some v → okV N κ v
  defers : R.defers = (φ r.defers).1
  dok : N r.defers

def entOK (φ : Nat → Nat × Nat) (κ : Nat → Nat) (N : Nat → Prop) (w : World) (k : Nat) : AObj → Prop
  | .cells b => (κ k = 0 → b.cells = []) ∧ (κ k ≠ 0 → ∃ c el fz, w.heap[(φ k).1]? = some (.cells c el fz) ∧ (b.esz ≠ 0 → fz = (0, 0)) ∧ (φ k).2 + b.cells.length ≤ c.size ∧ (∀ j v, b.cells[j]? = some v → c[(φ k).2 + j]? = some (ren φ κ v)) ∧ (∀ v ∈ b.cells, okV N κ v) ∧ (b.opn = true → (φ k).2 + (κ k - 1) * b.esz ≤ c.size))
  | .map es clock => (φ k).2 = 0 ∧ w.heap[(φ k).1]? = some (.map (es.map (renE φ κ)).toArray clock) ∧ ∀ e ∈ es, okV N κ e.key ∧ okV N κ e.val
  | .loop r => (φ k).2 = 0 ∧ ∃ R, w.heap[(φ k).1]? = some (.loop R) ∧ LoopOK φ κ N r R
  | .deferred opn => (φ k).2 = 0 ∧ w.heap[(φ k).1]? = some (.deferred (if opn then some [] else none))
  | .iter m since seen last => (φ k).2 = 0 ∧ w.heap[(φ k).1]? = some (.mapIter (some (φ m).1) since seen last) ∧ N m

/- an object for which there is a block: a slice that is nil has none -/
def rl (κ : Nat → Nat) (k : Nat) : AObj → Prop
  | .cells _ => κ k ≠ 0
  | _ => True

structure Rel (w0 : World) (φ : Nat → Nat × Nat) (κ : Nat → Nat) (h : AH) (w : World) : Prop where
  below : Below w0.heap.size w0 w
  hid : ∀ p ∈ h.hid, p.2 ≤ h.next
  wl : h.wlim ≤ h.next
  ent : ∀ k o, h.get k = some o → entOK φ κ h.N w k o
  own : ∀ k o, h.get k = some o → rl κ k o → h.wlim ≤ k → w0.heap.size ≤ (φ k).1
  inj : ∀ k k' o o', h.get k = some o → h.get k' = some o' → rl κ k o → rl κ k' o' → h.wlim ≤ k → (φ k).1 = (φ k').1 → k = k'

theorem entOK.lt {φ : Nat → Nat × Nat} {κ : Nat → Nat} {N : Nat → Prop} {w : World} {k : Nat} {o : AObj} (h : entOK φ κ N w k o) (hr : rl κ k o) : (φ k).1 < w.heap.size := by
  cases o with
  | cells b => obtain ⟨c, el, fz, hc, _⟩ := h.2 hr; exact (Array.getElem?_eq_some_iff.1 hc).1
  | map es cl => obtain ⟨_, hc, _⟩ := h; exact (Array.getElem?_eq_some_iff.1 hc).1
  | loop r => obtain ⟨_, R, hc, _⟩ := h; exact (Array.getElem?_eq_some_iff.1 hc).1
  | deferred o => obtain ⟨_, hc⟩ := h; exact (Array.getElem?_eq_some_iff.1 hc).1
  | iter m s q l => obtain ⟨_, hc, _⟩ := h; exact (Array.getElem?_eq_some_iff.1 hc).1
theorem rl_congr {κ κ' : Nat → Nat} {k : Nat} {o : AObj} (hk : κ' k = κ k) (h : rl κ' k o) : rl κ k o := by
  cases o with
  | cells b => show κ k ≠ 0; rw [← hk]; exact h
  | _ => trivial

def Agree (a b : Nat) (φ : Nat → Nat × Nat) (κ : Nat → Nat) (φ' : Nat → Nat × Nat) (κ' : Nat → Nat) : Prop := ∀ k, ¬(a ≤ k ∧ k < b) → φ' k = φ k ∧ κ' k = κ k

structure Step (w0 : World) (φ : Nat → Nat × Nat) (κ : Nat → Nat) (h : AH) (φ' : Nat → Nat × Nat) (κ' : Nat → Nat) (h' : AH) (w' : World) : Prop where
  agr : Agree h.next h'.next φ κ φ' κ'
  rel : Rel w0 φ' κ' h' w'
  next : h.next ≤ h'.next
  hid : h'.hid = h.hid
  wlim : h'.wlim = h.wlim
  keep : ∀ k, k < h.wlim → h'.tr.get k = h.tr.get k

section
variable {w0 w w' w'' : World} {φ φ' φ'' : Nat → Nat × Nat} {κ κ' κ'' : Nat → Nat} {h h' h'' : AH}

theorem Rel.step (R : Rel w0 φ κ h w) : Step w0 φ κ h φ κ h w := ⟨fun _ _ => ⟨rfl, rfl⟩, R, Nat.le_refl _, rfl, rfl, fun _ _ => rfl⟩

theorem sees_lt {k : Nat} (s : h.sees k = true) : k < h.next := by
  unfold AH.sees at s
  simp only [Bool.and_eq_true, decide_eq_true_eq] at s
  exact s.1
theorem sees_mono {k : Nat} (hn : h.next ≤ h'.next) (hh : h'.hid = h.hid) (s : h.sees k = true) : h'.sees k = true := by
  unfold AH.sees at *
  rw [hh]
  simp only [Bool.and_eq_true, decide_eq_true_eq] at *
  exact ⟨by omega, s.2⟩
theorem Step.sees (S : Step w0 φ κ h φ' κ' h' w') {k : Nat} (s : h.N k) : h'.N k := sees_mono S.next S.hid s
theorem Step.agree (S : Step w0 φ κ h φ' κ' h' w') {k : Nat} (s : h.N k) : φ' k = φ k ∧ κ' k = κ k := S.agr k (by have := sees_lt s; omega)
theorem Step.ok (S : Step w0 φ κ h φ' κ' h' w') {v : Value} (o : okV h.N κ v) : okV h'.N κ' v := ok_mono (fun _ s => S.sees s) (fun _ s => (S.agree s).2) v o
theorem Step.ren (S : Step w0 φ κ h φ' κ' h' w') {v : Value} (o : okV h.N κ v) : Vm.ren φ' κ' v = Vm.ren φ κ v := ren_congr (fun _ s => S.agree s) v o
theorem Step.trans (S : Step w0 φ κ h φ' κ' h' w') (T : Step w0 φ' κ' h' φ'' κ'' h'' w'') : Step w0 φ κ h φ'' κ'' h'' w'' :=
  ⟨fun k hk => by
    have n1 := S.next
    have n2 := T.next
    by_cases h1 : h'.next ≤ k ∧ k < h''.next
    · exact absurd ⟨by omega, h1.2⟩ hk
    · by_cases h2 : h.next ≤ k ∧ k < h'.next
      · exact absurd ⟨h2.1, by omega⟩ hk
      · exact ⟨(T.agr k h1).1.trans (S.agr k h2).1, (T.agr k h1).2.trans (S.agr k h2).2⟩,
   T.rel, Nat.le_trans S.next T.next, T.hid.trans S.hid, T.wlim.trans S.wlim, fun k hk => (T.keep k (by rw [S.wlim]; exact hk)).trans (S.keep k hk)⟩

theorem get_sees {k : Nat} {o : AObj} (g : h.get k = some o) : h.sees k = true := by
  unfold AH.get at g
  split at g
  · assumption
  · cases g
theorem get_tr {k : Nat} {o : AObj} (g : h.get k = some o) : h.tr.get k = some o := by
  unfold AH.get at g
  split at g
  · exact g
  · cases g

theorem new_get (hh : ∀ p ∈ h.hid, p.2 ≤ h.next) (o : AObj) (k : Nat) : (h.new o).get k = if k = h.next then some o else h.get k := by
  unfold AH.get AH.new
  by_cases e : k = h.next
  · subst e
    have s : (⟨h.tr.put h.next (some o), h.next + 1, h.wlim, h.hid⟩ : AH).sees h.next = true := by
      unfold AH.sees
      simp only [Bool.and_eq_true, decide_eq_true_eq, Bool.not_eq_true']
      refine ⟨by omega, ?_⟩
      rw [List.any_eq_false]
      intro p hp
      have := hh p hp
      simp
      omega
    simp only [s, if_true, Tr.get_put]
  · rw [if_neg e]
    simp only [Tr.get_put, e, if_false]
    have s : (⟨h.tr.put h.next (some o), h.next + 1, h.wlim, h.hid⟩ : AH).sees k = h.sees k := by
      unfold AH.sees
      congr 1
      simp only [decide_eq_decide]
      omega
    rw [s]

def upd {α : Type} (f : Nat → α) (k : Nat) (x : α) : Nat → α := fun j => if j = k then x else f j
theorem upd_same {α : Type} (f : Nat → α) (k : Nat) (x : α) : upd f k x k = x := by simp [upd]
theorem upd_ne {α : Type} (f : Nat → α) {k j : Nat} (x : α) (h : j ≠ k) : upd f k x j = f j := by simp [upd, h]

theorem new_sees {o : AObj} {k : Nat} (s : h.sees k = true) : (h.new o).sees k = true := sees_mono (h := h) (h' := h.new o) (Nat.le_succ _) rfl s
theorem new_sees_self {o : AObj} (hh : ∀ p ∈ h.hid, p.2 ≤ h.next) : (h.new o).sees h.next = true := get_sees (h := h.new o) (o := o) (by rw [new_get hh]; simp)

/- what the entries say stays, where the names' meaning and their blocks stay -/
theorem entOK.move {N N' : Nat → Prop} {k : Nat} {o : AObj} (E : entOK φ κ N w k o) (hn : ∀ k, N k → N' k) (ha : ∀ j, N j → φ' j = φ j ∧ κ' j = κ j) (hk : φ' k = φ k ∧ κ' k = κ k) (hw : rl κ k o → w'.heap[(φ k).1]? = w.heap[(φ k).1]?) : entOK φ' κ' N' w' k o := by
  cases o with
  | cells b =>
    refine ⟨fun h0 => E.1 (by rw [← hk.2]; exact h0), fun h0 => ?_⟩
    rw [hk.2] at h0
    obtain ⟨c, el, fz, h1, hz, h0', h2, h3, h4⟩ := E.2 h0
    have hw := hw h0
    refine ⟨c, el, fz, by rw [hk.1, hw]; exact h1, hz, by rw [hk.1]; exact h0', fun j v hj => ?_, fun v hv => ok_mono hn (fun _ s => (ha _ s).2) v (h3 v hv), ?_⟩
    · rw [hk.1, ren_congr ha v (h3 v (List.mem_of_getElem? hj))]
      exact h2 j v hj
    · rw [hk.1, hk.2]; exact h4
  | map es cl =>
    obtain ⟨h1, h2, h3⟩ := E
    have hw := hw trivial
    refine ⟨by rw [hk.1]; exact h1, ?_, fun e he => ⟨ok_mono hn (fun _ s => (ha _ s).2) _ (h3 e he).1, ok_mono hn (fun _ s => (ha _ s).2) _ (h3 e he).2⟩⟩
    rw [hk.1, hw, h2]
    congr 3
    apply List.map_congr_left
    intro e he
    unfold renE
    rw [ren_congr ha _ (h3 e he).1, ren_congr ha _ (h3 e he).2]
  | loop r =>
    obtain ⟨h1, R, h2, h3⟩ := E
    have hw := hw trivial
    refine ⟨by rw [hk.1]; exact h1, R, by rw [hk.1, hw]; exact h2, ⟨h3.state, h3.pending, h3.params, h3.assign, h3.body, h3.size, fun d v hd => ?_, fun d v hd => ok_mono hn (fun _ s => (ha _ s).2) _ (h3.ok d v hd), ?_, hn _ h3.dok⟩⟩
    · rw [ren_congr ha _ (h3.ok d v hd)]; exact h3.get d v hd
    · rw [(ha _ h3.dok).1]; exact h3.defers
  | deferred o =>
    obtain ⟨h1, h2⟩ := E
    have hw := hw trivial
    exact ⟨by rw [hk.1]; exact h1, by rw [hk.1, hw]; exact h2⟩
  | iter m s q l =>
    obtain ⟨h1, h2, h3⟩ := E
    have hw := hw trivial
    exact ⟨by rw [hk.1]; exact h1, by rw [hk.1, hw, (ha _ h3).1]; exact h2, hn _ h3⟩

/- a new block -/
theorem Rel.push (R : Rel w0 φ κ h w) {o : AObj} {ob : Obj} {p : Nat × Nat} {K d : Nat} (hp : p.1 = w.heap.size)
    (ho : entOK (upd φ h.next p) (upd κ h.next K) (h.new o).N { w with heap := w.heap.push ob, drawn := d } h.next o) :
    Step w0 φ κ h (upd φ h.next p) (upd κ h.next K) (h.new o) { w with heap := w.heap.push ob, drawn := d } := by
  have hsz := R.below.size
  have hne : ∀ k, h.sees k = true → k ≠ h.next := fun k s e => by have := sees_lt s; omega
  have hrl : ∀ k o', h.get k = some o' → rl (upd κ h.next K) k o' → rl κ k o' := fun k o' g hr => rl_congr (upd_ne κ _ (hne k (get_sees g))) hr
  have key : ∀ k o', h.get k = some o' → entOK (upd φ h.next p) (upd κ h.next K) (h.new o).N { w with heap := w.heap.push ob, drawn := d } k o' := by
    intro k o' g
    have E := R.ent k o' g
    refine E.move (fun j s => new_sees s) (fun j s => ⟨upd_ne _ _ (hne j s), upd_ne _ _ (hne j s)⟩) ⟨upd_ne _ _ (hne k (get_sees g)), upd_ne _ _ (hne k (get_sees g))⟩ fun hr => ?_
    show (w.heap.push ob)[(φ k).1]? = _
    rw [Array.getElem?_push, if_neg (by have := E.lt hr; omega)]
  refine ⟨fun k hk => ?_, ⟨⟨R.below.os, R.below.tape, R.below.output, by simp; omega, fun k hk => ?_⟩, fun q hq => Nat.le_succ_of_le (R.hid q hq), Nat.le_succ_of_le R.wl, ?_, ?_, ?_⟩, Nat.le_succ _, rfl, rfl, fun k hk => ?_⟩
  · have : k ≠ h.next := fun e => hk ⟨by omega, by subst e; exact Nat.lt_succ_self _⟩
    exact ⟨upd_ne _ _ this, upd_ne _ _ this⟩
  · rw [← R.below.block k hk]
    show (w.heap.push ob)[k]? = _
    rw [Array.getElem?_push, if_neg (by omega)]
  · intro k o' g
    rw [new_get R.hid] at g
    by_cases e : k = h.next
    · subst e
      rw [if_pos rfl] at g
      injection g with g
      subst g
      exact ho
    · rw [if_neg e] at g
      exact key k o' g
  · intro k o' g hr hk
    rw [new_get R.hid] at g
    by_cases e : k = h.next
    · subst e
      rw [upd_same, hp]
      exact hsz
    · rw [if_neg e] at g
      rw [upd_ne _ _ e]
      exact R.own k o' g (hrl k o' g hr) hk
  · intro k k' o1 o2 g g' hr hr' hk e
    rw [new_get R.hid] at g g'
    by_cases e1 : k = h.next
    · by_cases e2 : k' = h.next
      · rw [e1, e2]
      · rw [if_neg e2] at g'
        have := (R.ent k' o2 g').lt (hrl k' o2 g' hr')
        rw [e1, upd_same, upd_ne _ _ e2, hp] at e
        omega
    · rw [if_neg e1] at g
      by_cases e2 : k' = h.next
      · have := (R.ent k o1 g).lt (hrl k o1 g hr)
        rw [e2, upd_same, upd_ne _ _ e1, hp] at e
        omega
      · rw [if_neg e2] at g'
        rw [upd_ne _ _ e1, upd_ne _ _ e2] at e
        exact R.inj k k' o1 o2 g g' (hrl k o1 g hr) (hrl k' o2 g' hr') hk e
  · show (h.tr.put h.next (some o)).get k = _
    rw [Tr.get_put, if_neg (by have := R.wl; omega)]

theorem put_sees {o : Option AObj} {k j : Nat} : (h.put k o).sees j = h.sees j := rfl
theorem put_next (h : AH) (k : Nat) (o : Option AObj) : (h.put k o).next = h.next := rfl
theorem put_wlim (h : AH) (k : Nat) (o : Option AObj) : (h.put k o).wlim = h.wlim := rfl
theorem put_hid (h : AH) (k : Nat) (o : Option AObj) : (h.put k o).hid = h.hid := rfl
theorem put_tr (h : AH) (k : Nat) (o : Option AObj) : (h.put k o).tr = h.tr.put k o := rfl
theorem new_next (h : AH) (o : AObj) : (h.new o).next = h.next + 1 := rfl
theorem new_wlim (h : AH) (o : AObj) : (h.new o).wlim = h.wlim := rfl
theorem new_hid (h : AH) (o : AObj) : (h.new o).hid = h.hid := rfl
theorem new_tr (h : AH) (o : AObj) : (h.new o).tr = h.tr.put h.next (some o) := rfl
theorem put_N (h : AH) (k : Nat) (o : Option AObj) : (h.put k o).N = h.N := by
  funext j
  unfold AH.N
  rw [put_sees]
theorem put_get {o : Option AObj} {k j : Nat} (s : h.sees k = true) : (h.put k o).get j = if j = k then o else h.get j := by
  unfold AH.get
  rw [put_sees]
  unfold AH.put
  simp only [Tr.get_put]
  by_cases e : j = k
  · subst e; simp [s]
  · simp [e]

/- a block written -/
theorem Rel.write (R : Rel w0 φ κ h w) {k : Nat} {o o' : AObj} {ob : Obj} (g : h.get k = some o) (hk : h.wlim ≤ k) (hr : rl κ k o)
    (ho : entOK φ κ h.N { w with heap := w.heap.setIfInBounds (φ k).1 ob } k o') :
    Step w0 φ κ h φ κ (h.put k (some o')) { w with heap := w.heap.setIfInBounds (φ k).1 ob } := by
  have hlt := (R.ent k o g).lt hr
  have hown := R.own k o g hr hk
  refine ⟨fun _ _ => ⟨rfl, rfl⟩, ⟨⟨R.below.os, R.below.tape, R.below.output, by simpa using R.below.size, fun j hj => ?_⟩, R.hid, R.wl, ?_, ?_, ?_⟩, Nat.le_refl _, rfl, rfl, fun j hj => ?_⟩
  · rw [← R.below.block j hj]
    show (w.heap.setIfInBounds (φ k).1 ob)[j]? = _
    rw [Array.getElem?_setIfInBounds_ne (by omega)]
  · intro j oj gj
    rw [put_get (get_sees g)] at gj
    by_cases e : j = k
    · subst e
      rw [if_pos rfl] at gj
      injection gj with gj
      subst gj
      exact ho
    · rw [if_neg e] at gj
      refine (R.ent j oj gj).move (fun _ s => s) (fun _ _ => ⟨rfl, rfl⟩) ⟨rfl, rfl⟩ fun hrj => ?_
      show (w.heap.setIfInBounds (φ k).1 ob)[(φ j).1]? = _
      rw [Array.getElem?_setIfInBounds_ne (fun e2 => e (R.inj k j o oj g gj hr hrj hk e2).symm)]
  · intro j oj gj hrj hj
    rw [put_get (get_sees g)] at gj
    by_cases e : j = k
    · subst e; exact hown
    · rw [if_neg e] at gj; exact R.own j oj gj hrj hj
  · intro j j' o1 o2 g1 g2 r1 r2 hj e
    rw [put_get (get_sees g)] at g1 g2
    have h1 : ∃ o, h.get j = some o ∧ rl κ j o := by
      by_cases e1 : j = k
      · exact ⟨o, e1 ▸ g, e1 ▸ hr⟩
      · rw [if_neg e1] at g1; exact ⟨_, g1, r1⟩
    have h2 : ∃ o, h.get j' = some o ∧ rl κ j' o := by
      by_cases e1 : j' = k
      · exact ⟨o, e1 ▸ g, e1 ▸ hr⟩
      · rw [if_neg e1] at g2; exact ⟨_, g2, r2⟩
    obtain ⟨_, h1, h1'⟩ := h1
    obtain ⟨_, h2, h2'⟩ := h2
    exact R.inj j j' _ _ h1 h2 h1' h2' hj e
  · show (h.tr.put k _).get j = _
    rw [Tr.get_put, if_neg (by omega)]

/- a name struck -/
theorem Rel.kill (R : Rel w0 φ κ h w) {k : Nat} {o : AObj} (g : h.get k = some o) (hk : h.wlim ≤ k) : Step w0 φ κ h φ κ (h.put k none) w := by
  have hle : ∀ j oj, (h.put k none).get j = some oj → h.get j = some oj := by
    intro j oj gj
    rw [put_get (get_sees g)] at gj
    by_cases e : j = k
    · rw [if_pos e] at gj; cases gj
    · rw [if_neg e] at gj; exact gj
  refine ⟨fun _ _ => ⟨rfl, rfl⟩, ⟨R.below, R.hid, R.wl, fun j oj gj => ?_, fun j oj gj => R.own j oj (hle j oj gj), fun j j' o1 o2 g1 g2 => R.inj j j' o1 o2 (hle _ _ g1) (hle _ _ g2)⟩, Nat.le_refl _, rfl, rfl, fun j hj => ?_⟩
  · exact R.ent j oj (hle j oj gj)
  · show (h.tr.put k _).get j = _
    rw [Tr.get_put, if_neg (by omega)]

/- a second name for a block that no other name stands for; or for none -/
theorem Rel.name (R : Rel w0 φ κ h w) {o : AObj} {p : Nat × Nat} {K : Nat} (hown : rl (upd κ h.next K) h.next o → w0.heap.size ≤ p.1) (hfree : rl (upd κ h.next K) h.next o → ∀ k o', h.get k = some o' → rl κ k o' → (φ k).1 ≠ p.1)
    (ho : entOK (upd φ h.next p) (upd κ h.next K) (h.new o).N w h.next o) :
    Step w0 φ κ h (upd φ h.next p) (upd κ h.next K) (h.new o) w := by
  have hne : ∀ k, h.sees k = true → k ≠ h.next := fun k s e => by have := sees_lt s; omega
  have hrl : ∀ k o', h.get k = some o' → rl (upd κ h.next K) k o' → rl κ k o' := fun k o' g hr => rl_congr (upd_ne κ _ (hne k (get_sees g))) hr
  refine ⟨fun k hk => ?_, ⟨R.below, fun q hq => Nat.le_succ_of_le (R.hid q hq), Nat.le_succ_of_le R.wl, ?_, ?_, ?_⟩, Nat.le_succ _, rfl, rfl, fun k hk => ?_⟩
  · have : k ≠ h.next := fun e => hk ⟨by omega, by subst e; exact Nat.lt_succ_self _⟩
    exact ⟨upd_ne _ _ this, upd_ne _ _ this⟩
  · intro k o' g
    rw [new_get R.hid] at g
    by_cases e : k = h.next
    · subst e
      rw [if_pos rfl] at g
      injection g with g
      subst g
      exact ho
    · rw [if_neg e] at g
      exact (R.ent k o' g).move (fun j s => new_sees s) (fun j s => ⟨upd_ne _ _ (hne j s), upd_ne _ _ (hne j s)⟩) ⟨upd_ne _ _ (hne k (get_sees g)), upd_ne _ _ (hne k (get_sees g))⟩ fun _ => rfl
  · intro k o' g hr hk
    rw [new_get R.hid] at g
    by_cases e : k = h.next
    · subst e
      rw [if_pos rfl] at g
      injection g with g
      subst g
      rw [upd_same]
      exact hown hr
    · rw [if_neg e] at g
      rw [upd_ne _ _ e]
      exact R.own k o' g (hrl k o' g hr) hk
  · intro k k' o1 o2 g g' hr hr' hk e
    rw [new_get R.hid] at g g'
    by_cases e1 : k = h.next
    · by_cases e2 : k' = h.next
      · rw [e1, e2]
      · rw [if_neg e2] at g'
        subst e1
        rw [if_pos rfl] at g
        injection g with g
        subst g
        rw [upd_same, upd_ne _ _ e2] at e
        exact absurd e.symm (hfree hr k' o2 g' (hrl k' o2 g' hr'))
    · rw [if_neg e1] at g
      by_cases e2 : k' = h.next
      · subst e2
        rw [if_pos rfl] at g'
        injection g' with g'
        subst g'
        rw [upd_same, upd_ne _ _ e1] at e
        exact absurd e (hfree hr' k o1 g (hrl k o1 g hr))
      · rw [if_neg e2] at g'
        rw [upd_ne _ _ e1, upd_ne _ _ e2] at e
        exact R.inj k k' o1 o2 g g' (hrl k o1 g hr) (hrl k' o2 g' hr') hk e
  · show (h.tr.put h.next (some o)).get k = _
    rw [Tr.get_put, if_neg (by have := R.wl; omega)]

def AH.bump (h : AH) : AH := { h with tr := h.tr.put h.next none, next := h.next + 1 }
theorem Rel.bump (R : Rel w0 φ κ h w) (p : Nat × Nat) (K : Nat) : Step w0 φ κ h (upd φ h.next p) (upd κ h.next K) h.bump w := by
  have hne : ∀ k, h.sees k = true → k ≠ h.next := fun k s e => by have := sees_lt s; omega
  have hget : ∀ k o, h.bump.get k = some o → h.get k = some o := by
    intro k o g
    have g2 := get_tr g
    have hs := get_sees g
    have g3 : (h.tr.put h.next none).get k = some o := g2
    rw [Tr.get_put] at g3
    by_cases e : k = h.next
    · rw [if_pos e] at g3; cases g3
    · rw [if_neg e] at g3
      unfold AH.get
      have : h.sees k = true := by
        unfold AH.sees at hs ⊢
        rw [Bool.and_eq_true, decide_eq_true_eq] at hs ⊢
        have h1 : k < h.next + 1 := hs.1
        exact ⟨by omega, hs.2⟩
      rw [if_pos this]
      exact g3
  refine ⟨fun k hk => ?_, ⟨R.below, fun q hq => Nat.le_succ_of_le (R.hid q hq), Nat.le_succ_of_le R.wl, fun k o g => ?_, fun k o g hr hk => ?_, fun k k' o o' g g' hr hr' hk e => ?_⟩, Nat.le_succ _, rfl, rfl, fun k hk => ?_⟩
  · have : k ≠ h.next := fun e => hk ⟨by omega, by subst e; exact Nat.lt_succ_self _⟩
    exact ⟨upd_ne _ _ this, upd_ne _ _ this⟩
  · have g' := hget k o g
    exact (R.ent k o g').move (fun j s => sees_mono (h := h) (h' := h.bump) (Nat.le_succ _) rfl s) (fun j s => ⟨upd_ne _ _ (hne j s), upd_ne _ _ (hne j s)⟩) ⟨upd_ne _ _ (hne k (get_sees g')), upd_ne _ _ (hne k (get_sees g'))⟩ fun _ => rfl
  · have g' := hget k o g
    rw [upd_ne _ _ (hne k (get_sees g'))]
    exact R.own k o g' (rl_congr (upd_ne κ _ (hne k (get_sees g'))) hr) hk
  · have g1 := hget k o g
    have g2 := hget k' o' g'
    rw [upd_ne _ _ (hne k (get_sees g1)), upd_ne _ _ (hne k' (get_sees g2))] at e
    exact R.inj k k' o o' g1 g2 (rl_congr (upd_ne κ _ (hne k (get_sees g1))) hr) (rl_congr (upd_ne κ _ (hne k' (get_sees g2))) hr') hk e
  · show (h.tr.put h.next none).get k = _
    rw [Tr.get_put, if_neg (by have := R.wl; omega)]
theorem bump_sees (hh : ∀ p ∈ h.hid, p.2 ≤ h.next) : h.bump.sees h.next = true := by
  have := new_sees_self (h := h) (o := .deferred true) hh
  exact this
end
end Go.Vm

/- VmC: A machine for closed runs, third part: loads, stores, new blocks. -/
namespace Go.Vm
open Go Go.RowKit

def isAggD : TypeDesc → Bool
  | .struct _ | .array _ _ => true
  | _ => false

section
variable {P : Program} {w0 w w' : World} {φ φ' : Nat → Nat × Nat} {κ κ' : Nat → Nat} {h h' : AH}

theorem run_typeInfo' {t : TypeId} {i : TypeInfo} (hi : P.info? t = some i) (w : World) : (typeInfo t).run P w = .ok i w := by
  simp [typeInfo, program, Sem.run, Sem.run_bind, hi]
theorem run_sizeOf' {t : TypeId} {i : TypeInfo} (hi : P.info? t = some i) (w : World) : (sizeOf t).run P w = .ok i.size w := by
  unfold sizeOf
  rw [Sem.run_bind, run_typeInfo' hi]
  rfl
theorem run_zeroValue' {t : TypeId} {i : TypeInfo} {z : Value} (hi : P.info? t = some i) (hz : i.zero = some z) (w : World) : (zeroValue t).run P w = .ok z w := by
  unfold zeroValue
  rw [Sem.run_bind, run_typeInfo' hi]
  simp [hz]
theorem run_isAgg' {t : TypeId} {d : TypeDesc} (hd : P.underlying t = some d) (w : World) : (isAgg t).run P w = .ok (isAggD d) w := by
  unfold isAgg
  rw [Sem.run_bind, run_underlying hd]
  cases d <;> rfl

theorem add_none (b o i : Nat) : (⟨b, o, none⟩ : Addr).add i = ⟨b, o + i, none⟩ := by
  unfold Addr.add
  split <;> simp_all

theorem Rel.nz (R : Rel w0 φ κ h w) {k : Nat} {b : Blk} (g : h.get k = some (.cells b)) (hn : b.cells ≠ []) : κ k ≠ 0 := fun e => hn ((R.ent k _ g).1 e)
theorem Rel.entC (R : Rel w0 φ κ h w) {k : Nat} {b : Blk} (g : h.get k = some (.cells b)) (hn : b.cells ≠ []) : ∃ c el fz, w.heap[(φ k).1]? = some (.cells c el fz) ∧ (b.esz ≠ 0 → fz = (0, 0)) ∧ (φ k).2 + b.cells.length ≤ c.size ∧ (∀ j v, b.cells[j]? = some v → c[(φ k).2 + j]? = some (ren φ κ v)) ∧ (∀ v ∈ b.cells, okV h.N κ v) ∧ (b.opn = true → (φ k).2 + (κ k - 1) * b.esz ≤ c.size) := (R.ent k _ g).2 (R.nz g hn)
/- the cells of a name, in the world -/
theorem Rel.cells (R : Rel w0 φ κ h w) {k : Nat} {b : Blk} (g : h.get k = some (.cells b)) {j : Nat} {v : Value} (hj : b.cells[j]? = some v) : w.cell? ⟨(φ k).1, (φ k).2 + j, none⟩ = some (ren φ κ v) ∧ okV h.N κ v := by
  obtain ⟨c, el, fz, h1, _, h0, h2, h3, _⟩ := R.entC g (List.ne_nil_of_mem (List.mem_of_getElem? hj))
  refine ⟨?_, h3 v (List.mem_of_getElem? hj)⟩
  simp [World.cell?, h1, h2 j v hj]
theorem Rel.okCells (R : Rel w0 φ κ h w) {k : Nat} {b : Blk} (g : h.get k = some (.cells b)) : ∀ v ∈ b.cells, okV h.N κ v := by
  intro v hv
  obtain ⟨c, el, fz, h1, _, h0, h2, h3, _⟩ := R.entC g (List.ne_nil_of_mem hv)
  exact h3 v hv

theorem Rel.loadCells (R : Rel w0 φ κ h w) {k o n : Nat} {b : Blk} (g : h.get k = some (.cells b)) (hn : o + n ≤ b.cells.length) :
    (loadCells ⟨(φ k).1, (φ k).2 + o, none⟩ n).run P w = .ok (((b.cells.drop o).take n).map (ren φ κ)).toArray w := by
  have hl : (((b.cells.drop o).take n).map (ren φ κ)).length = n := by simp; omega
  have := run_loadCells_list (P := P) w ⟨(φ k).1, (φ k).2 + o, none⟩ (((b.cells.drop o).take n).map (ren φ κ)) (fun j v hj => by
    rw [add_none]
    have hjl : j < n := by
      have := (List.getElem?_eq_some_iff.1 hj).1
      omega
    rw [List.getElem?_map, List.getElem?_take, if_pos hjl, List.getElem?_drop] at hj
    cases hc : b.cells[o + j]? with
    | none => rw [hc] at hj; simp at hj
    | some u =>
      rw [hc] at hj
      simp only [Option.map_some, Option.some.injEq] at hj
      subst hj
      have := (R.cells g hc).1
      rw [Nat.add_assoc]
      exact this)
  rw [hl] at this
  exact this

def aLoad (P : Program) (h : AH) (t : TypeId) : Value → Option Value
  | .pointer (some ⟨k, o, none⟩) =>
    match h.get k, P.underlying t, P.info? t with
    | some (.cells b), some d, some i =>
      if isAggD d then (if o + i.size ≤ b.cells.length then some (.agg ((b.cells.drop o).take i.size).toArray) else none)
      else b.cells[o]?
    | _, _, _ => none
  | _ => none

theorem aLoad_sound (R : Rel w0 φ κ h w) {t : TypeId} {a v : Value} (e : aLoad P h t a = some v) : (Instr.loadAt t (ren φ κ a)).run P w = .ok (ren φ κ v) w ∧ okV h.N κ v := by
  unfold aLoad at e
  split at e
  · rename_i k o
    split at e
    · rename_i b d i g hd hi
      unfold Instr.loadAt
      simp only [ren, Instr.sureAddr, Sem.run_bind, Sem.run_pure, Result.andThen_ok, loadVar, run_isAgg' hd]
      split at e
      · rename_i hag
        split at e
        · rename_i hle
          injection e with e
          subst e
          simp only [hag, if_true, Sem.run_bind, run_sizeOf' hi, Result.andThen_ok, R.loadCells g hle, Sem.run_pure]
          refine ⟨?_, ?_⟩
          · simp [ren, renA, renL_map]
          · simp only [okV, okA, okL_iff]
            intro x hx
            exact R.okCells g x (List.mem_of_mem_drop (List.mem_of_mem_take hx))
        · cases e
      · rename_i hag
        have hag' : isAggD d = false := by simpa using hag
        obtain ⟨hc, ho⟩ := R.cells g e
        simp only [hag', Bool.false_eq_true, if_false, run_load, hc]
        exact ⟨trivial, ho⟩
    · cases e
  · cases e

def writeAt (l : List Value) (o : Nat) (vs : List Value) : List Value := l.take o ++ vs ++ l.drop (o + vs.length)

theorem setRow_set {g : Nat} {c : Array Value} {t : TypeId} {fr : Nat × Nat} (hg : w.heap[g]? = some (.cells c t fr)) (c' : Array Value) : w.setRow g c' = { w with heap := w.heap.setIfInBounds g (.cells c' t fr) } := by
  unfold World.setRow
  congr 1
  apply Array.ext_getElem?
  intro j
  rw [Array.getElem?_modify]
  by_cases e : g = j
  · subst e
    rw [if_pos rfl, hg, Array.getElem?_setIfInBounds_self_of_lt (Array.getElem?_eq_some_iff.1 hg).1]
    rfl
  · rw [if_neg e, Array.getElem?_setIfInBounds_ne e]

theorem writeAt_get {l vs : List Value} {o : Nat} (hl : o + vs.length ≤ l.length) (j : Nat) : (writeAt l o vs)[j]? = if o ≤ j ∧ j < o + vs.length then vs[j - o]? else l[j]? := by
  unfold writeAt
  have h1 : (l.take o).length = o := by simp; omega
  by_cases a : j < o
  · rw [if_neg (by omega), List.append_assoc, List.getElem?_append_left (by omega), List.getElem?_take, if_pos a]
  · by_cases b : j < o + vs.length
    · rw [if_pos (by omega), List.append_assoc, List.getElem?_append_right (by omega), h1, List.getElem?_append_left (by omega)]
    · rw [if_neg (by omega), List.getElem?_append_right (by simp; omega), List.getElem?_drop]
      congr 1
      simp
      omega

theorem one_ren (φ : Nat → Nat × Nat) (κ : Nat → Nat) (v : Value) : (ren φ κ v).oneCell' = v.oneCell' := by
  cases v with
  | pointer a => cases a <;> simp [ren, Value.oneCell']
  | slice a n c =>
    cases a with
    | none => simp [ren, Value.oneCell']
    | some a => simp only [ren]; split <;> rfl
  | map a => cases a <;> simp [ren, Value.oneCell']
  | _ => simp [ren, Value.oneCell']

/- values laid into a block -/
theorem Rel.storeCells (R : Rel w0 φ κ h w) {k o : Nat} {b : Blk} {vs : List Value} (g : h.get k = some (.cells b)) (hk : h.wlim ≤ k) (hr : κ k ≠ 0) (hz : b.esz ≠ 0) (hl : o + vs.length ≤ b.cells.length) (hf : vs.all Value.oneCell' = true) (hv : ∀ v ∈ vs, okV h.N κ v) :
    ∃ w', (storeCells ⟨(φ k).1, (φ k).2 + o, none⟩ (vs.map (ren φ κ)) 0).run P w = .ok () w' ∧ Step w0 φ κ h φ κ (h.put k (some (.cells { b with cells := writeAt b.cells o vs }))) w' := by
  obtain ⟨c, el, fz, h1, h1z, h0, h2, h3, h4⟩ := (R.ent k _ g).2 hr
  obtain rfl := h1z hz
  have hf' : ∀ v ∈ vs.map (ren φ κ), v.oneCell' = true := by
    intro v hv
    obtain ⟨u, hu, rfl⟩ := List.mem_map.1 hv
    have := List.all_eq_true.1 hf u hu
    rw [one_ren]
    exact this
  have hrun := run_storeCells_at P (φ k).1 ((φ k).2 + o) el (vs.map (ren φ κ)) 0 c w h1 (by simp; omega) hf'
  rw [setRow_set h1] at hrun
  refine ⟨_, hrun, R.write g hk hr ?_⟩
  have hlt := (R.ent k _ g).lt hr
  refine ⟨fun e => absurd e hr, fun _ => ⟨_, el, _, Array.getElem?_setIfInBounds_self_of_lt hlt, fun _ => rfl, ?_, fun j v hj => ?_, fun v hv' => ?_, ?_⟩⟩
  · have : (writeAt b.cells o vs).length = b.cells.length := by unfold writeAt; simp; omega
    simp only [List.size_toArray, List.length_append, List.length_take, List.length_drop, List.length_map, Array.length_toList, this]
    omega
  · simp only [List.getElem?_toArray]
    have e := writeAt_get (l := c.toList) (vs := vs.map (ren φ κ)) (o := (φ k).2 + o) (by simp; omega) ((φ k).2 + j)
    unfold writeAt at e
    simp only [Nat.add_zero]
    rw [e]
    rw [writeAt_get hl] at hj
    by_cases hc : o ≤ j ∧ j < o + vs.length
    · rw [if_pos hc] at hj
      rw [if_pos (by simp; omega), List.getElem?_map, show (φ k).2 + j - ((φ k).2 + o) = j - o from by omega, hj]
      rfl
    · rw [if_neg hc] at hj
      rw [if_neg (by simp; omega)]
      simpa using h2 j v hj
  · unfold writeAt at hv'
    rw [List.mem_append, List.mem_append] at hv'
    rcases hv' with (hv' | hv') | hv'
    · exact h3 v (List.mem_of_mem_take hv')
    · exact hv v hv'
    · exact h3 v (List.mem_of_mem_drop hv')
  · intro ho
    have := h4 ho
    simp only [List.size_toArray, List.length_append, List.length_take, List.length_drop, List.length_map, Array.length_toList]
    omega
end
end Go.Vm

/- VmD: A machine for closed runs, fourth part: the operations that touch no other call. -/
namespace Go.Vm
open Go Go.RowKit

section
variable {P : Program} {w0 w w' : World} {φ φ' : Nat → Nat × Nat} {κ κ' : Nat → Nat} {h h' : AH}

/- a new block of cells -/
theorem Rel.newCells (R : Rel w0 φ κ h w) {cs : List Value} (hcs : ∀ v ∈ cs, okV h.N κ v) (esz : Nat) (opn : Bool) (K d : Nat) (el : TypeId) (ext : List Value) (hK : opn = true → K * esz ≤ cs.length + ext.length) :
    Step w0 φ κ h (upd φ h.next (w.heap.size, 0)) (upd κ h.next (K + 1)) (h.new (.cells ⟨cs, esz, opn⟩)) { w with heap := w.heap.push (.cells (cs.map (ren φ κ) ++ ext).toArray el (0, 0)), drawn := d } := by
  have hne : ∀ k, h.sees k = true → k ≠ h.next := fun k s e => by have := sees_lt s; omega
  refine R.push rfl ⟨fun e => (by rw [upd_same] at e; cases e), fun _ => ⟨(cs.map (ren φ κ) ++ ext).toArray, el, _, ?_, fun _ => rfl, ?_, fun j v hj => ?_, fun v hv => ?_, fun ho => ?_⟩⟩
  · rw [upd_same]
    show (w.heap.push _)[w.heap.size]? = _
    simp
  · rw [upd_same]; simp
  · rw [upd_same]
    simp only [Nat.zero_add, List.getElem?_toArray]
    have hlt := (List.getElem?_eq_some_iff.1 hj).1
    have hj' : cs[j]? = some v := hj
    rw [List.getElem?_append_left (by simpa using hlt), List.getElem?_map, hj', Option.map_some, ren_congr (N := h.N) (fun k s => ⟨upd_ne _ _ (hne k s), upd_ne _ _ (hne k s)⟩) v (hcs v (List.mem_of_getElem? hj'))]
  · exact ok_mono (fun _ s => new_sees s) (fun k s => upd_ne _ _ (hne k s)) v (hcs v hv)
  · rw [upd_same, upd_same]
    have := hK ho
    simp only [List.size_toArray, List.length_append, List.length_map, Nat.add_sub_cancel]
    omega

theorem run_newRow' (el : TypeId) (cells : Array Value) (w : World) : (newRow el cells).run P w = .ok ⟨w.heap.size, 0, none⟩ { w with heap := w.heap.push (.cells cells el (0, 0)) } := by
  simp [newRow, newObj, Sem.run]

def pt (k : Nat) : Value := .pointer (some ⟨k, 0, none⟩)

/- 'new' with cells that are known -/
theorem Rel.row (R : Rel w0 φ κ h w) {cs : List Value} (hcs : ∀ v ∈ cs, okV h.N κ v) (el : TypeId) (esz : Nat) :
    ∃ φ' κ' w', (newRow el (cs.map (ren φ κ)).toArray).run P w = .ok ⟨(φ' h.next).1, 0, none⟩ w' ∧ (φ' h.next).2 = 0 ∧ Step w0 φ κ h φ' κ' (h.new (.cells ⟨cs, esz, false⟩)) w' ∧ (h.new (.cells ⟨cs, esz, false⟩)).N h.next ∧ κ' h.next ≠ 0 := by
  have := R.newCells hcs esz false 0 w.drawn el [] (fun e => by cases e)
  rw [List.append_nil] at this
  refine ⟨_, _, _, ?_, ?_, this, new_sees_self R.hid, ?_⟩
  · rw [run_newRow', upd_same]
  · rw [upd_same]
  · rw [upd_same]; exact Nat.succ_ne_zero _

theorem cells_oneCell : ∀ (v : Value), v.oneCell' = true → v.cells = #[v]
  | .agg _, h => by simp [Value.oneCell'] at h
  | .tuple _, _ => rfl
  | .bool _, _ | .int _ _, _ | .float _ _, _ | .complex _ _ _, _ | .string _, _ | .pointer _, _ | .slice _ _ _, _ | .map _, _ | .chan _, _ | .func _ _ _, _ | .nilFunc, _ | .iface _ _, _ | .nilIface, _ => rfl

/- box, alloc -/
def aBox (h : AH) (v : Value) : Value × AH := (pt h.next, h.new (.cells ⟨v.cells.toList, 1, false⟩))

theorem aBox_sound (R : Rel w0 φ κ h w) {el : TypeId} {v : Value} (o : okV h.N κ v) :
    ∃ φ' κ' w', (Instr.box el (ren φ κ v)).run P w = .ok (ren φ' κ' (aBox h v).1) w' ∧ Step w0 φ κ h φ' κ' (aBox h v).2 w' ∧ okV (aBox h v).2.N κ' (aBox h v).1 := by
  obtain ⟨φ', κ', w', h1, h2, h3, h4, h5⟩ := R.row (P := P) (cs := v.cells.toList) (ok_cells o) el 1
  refine ⟨φ', κ', w', ?_, h3, ?_⟩
  · unfold Instr.box newVar
    have e : ((v.cells.toList.map (ren φ κ)).toArray) = (ren φ κ v).cells := by
      rw [ren_cells]
      apply Array.ext'
      simp
    rw [e] at h1
    rw [Sem.run_bind, h1]
    simp [aBox, pt, ren, h2]
  · simp only [aBox, pt, okV]; exact ⟨h4, h5⟩

def zeroOf (P : Program) (t : TypeId) : Option Value :=
  match P.info? t with
  | some i => match i.zero with
    | some z => if noAddr z then some z else none
    | none => none
  | none => none
theorem zeroOf_spec {t : TypeId} {z : Value} (e : zeroOf P t = some z) : noAddr z = true ∧ ∃ i, P.info? t = some i ∧ i.zero = some z := by
  unfold zeroOf at e
  split at e
  · rename_i i hi
    split at e
    · rename_i z' hz
      split at e
      · rename_i hn
        injection e with e
        subst e
        exact ⟨hn, i, hi, hz⟩
      · cases e
    · cases e
  · cases e

def aAlloc (P : Program) (h : AH) (t : TypeId) : Option (Value × AH) := (zeroOf P t).map (aBox h)
theorem aAlloc_sound (R : Rel w0 φ κ h w) {t : TypeId} {r : Value × AH} (e : aAlloc P h t = some r) :
    ∃ φ' κ' w', (Instr.alloc t true (.tuple #[])).run P w = .ok (ren φ' κ' r.1) w' ∧ Step w0 φ κ h φ' κ' r.2 w' ∧ okV r.2.N κ' r.1 := by
  unfold aAlloc at e
  cases hz : zeroOf P t with
  | none => rw [hz] at e; cases e
  | some z =>
    rw [hz] at e
    injection e with e
    subst e
    obtain ⟨hn, i, hi, hz'⟩ := zeroOf_spec hz
    obtain ⟨φ', κ', w', h1, h2, h3⟩ := aBox_sound (P := P) R (el := t) (ok_noAddr h.N κ z hn)
    refine ⟨φ', κ', w', ?_, h2, h3⟩
    rw [ren_noAddr _ _ _ hn] at h1
    unfold Instr.box at h1
    unfold Instr.alloc
    rw [Sem.run_bind, run_zeroValue' hi hz']
    exact h1

/- store -/
def aStore (P : Program) (h : AH) (t : TypeId) (a v : Value) : Option AH :=
  match a with
  | .pointer (some ⟨k, o, none⟩) =>
    match h.get k, P.info? t with
    | some (.cells b), some i =>
      if v.cells.size = i.size ∧ o + i.size ≤ b.cells.length ∧ h.wlim ≤ k ∧ v.cells.toList.all Value.oneCell' = true ∧ b.esz ≠ 0 then some (h.put k (some (.cells { b with cells := writeAt b.cells o v.cells.toList }))) else none
    | _, _ => none
  | _ => none
theorem aStore_sound (R : Rel w0 φ κ h w) {t : TypeId} {a v : Value} (e : aStore P h t a v = some h') (oa : okV h.N κ a) (o : okV h.N κ v) :
    ∃ w', (Instr.storeAt t (ren φ κ a) (ren φ κ v)).run P w = .ok () w' ∧ Step w0 φ κ h φ κ h' w' := by
  unfold aStore at e
  split at e
  · rename_i k off
    split at e
    · rename_i b i g hi
      split at e
      · rename_i hc
        obtain ⟨h1, h2, h3, h4, h5⟩ := hc
        injection e with e
        subst e
        obtain ⟨w', hr, hs⟩ := R.storeCells (P := P) (k := k) (o := off) (vs := v.cells.toList) g h3 (by simp only [okV] at oa; exact oa.2) h5 (by simpa [h1] using h2) h4 (ok_cells o)
        refine ⟨w', ?_, hs⟩
        unfold Instr.storeAt storeVar
        simp only [ren, Instr.sureAddr, Sem.run_bind, Sem.run_pure, Result.andThen_ok, run_sizeOf' hi]
        rw [if_neg (by rw [ren_cells]; simp [h1])]
        rw [ren_cells, Array.toList_map]
        exact hr
      · cases e
    · cases e
  · cases e

/- addresses -/
def fieldOf (P : Program) (s : TypeId) (f : Nat) : Option Field :=
  match P.underlying s with
  | some (.struct fields) => fields[f]?
  | _ => none
def aFieldAddr (P : Program) (s : TypeId) (f : Nat) (a : Value) : Option Value :=
  match a, fieldOf P s f with
  | .pointer (some a), some fd =>
    match P.info? fd.type with
    | some i => if i.size = 0 then none else some (.pointer (some (a.add fd.offset)))
    | none => none
  | _, _ => none
theorem ren_add (φ : Nat → Nat × Nat) (κ : Nat → Nat) (a : Addr) (n : Nat) : ren φ κ (.pointer (some (a.add n))) = .pointer (some ((⟨(φ a.block).1, (φ a.block).2 + a.off, a.spot⟩ : Addr).add n)) := by
  simp only [ren]
  unfold Addr.add
  split <;> simp [Nat.add_assoc]
theorem add_block (a : Addr) (n : Nat) : (a.add n).block = a.block := by unfold Addr.add; split <;> rfl
theorem aFieldAddr_sound {N : Nat → Prop} {s : TypeId} {f : Nat} {a v : Value} (e : aFieldAddr P s f a = some v) (o : okV N κ a) :
    (Instr.fieldAt s (ren φ κ a) f).run P w = .ok (ren φ κ v) w ∧ okV N κ v := by
  unfold aFieldAddr at e
  split at e
  · rename_i a fd hf
    split at e
    · rename_i i hi
      split at e
      · cases e
      · rename_i hz
        injection e with e
        subst e
        unfold fieldOf at hf
        split at hf
        · rename_i fields hu
          refine ⟨?_, ?_⟩
          · rw [ren_add]
            unfold Instr.fieldAt
            simp only [Sem.run_bind, run_underlying hu, Result.andThen_ok, hf]
            simp [ren, Instr.sureAddr, Sem.run_bind, fieldPlace, run_sizeOf' hi, hz]
          · simp only [okV, add_block] at o ⊢
            exact o
        · cases hf
    · cases e
  · cases e

def aIndexAddr (P : Program) (t : TypeId) (x i : Value) : Option Value :=
  match x, i, P.underlying t with
  | .slice (some a) n _, .int _ i, some (.slice e) =>
    match P.info? e with
    | some f => if 0 ≤ i ∧ i < (n : Int) then some (.pointer (some (a.add (i.toNat * f.size)))) else none
    | none => none
  | .pointer (some a), .int _ i, some (.array n e) =>
    match P.info? e with
    | some f => if 0 ≤ i ∧ i < (n : Int) then some (.pointer (some (a.add (i.toNat * f.size)))) else none
    | none => none
  | _, _, _ => none
theorem aIndexAddr_sound {N : Nat → Prop} {t : TypeId} {x i v : Value} (e : aIndexAddr P t x i = some v) (o : okV N κ x) :
    (Instr.indexAt t (ren φ κ x) (ren φ κ i)).run P w = .ok (ren φ κ v) w ∧ okV N κ v := by
  unfold aIndexAddr at e
  split at e
  · rename_i a n c kk i el hu
    split at e
    · rename_i f hf
      split at e
      · rename_i hi
        injection e with e
        subst e
        refine ⟨?_, ?_⟩
        · rw [ren_add]
          have hk : κ a.block ≠ 0 := fun e => by simp only [okV] at o; have := (o.2.1 e).1; omega
          unfold Instr.indexAt
          simp [ren, hk, asIntOf, Sem.run_bind, run_underlying hu, hi, run_sizeOf' hf]
        · simp only [okV, add_block] at o ⊢
          exact ⟨o.1, fun e => by have := (o.2.1 e).1; omega⟩
      · cases e
    · cases e
  · rename_i a kk i n el hu
    split at e
    · rename_i f hf
      split at e
      · rename_i hi
        injection e with e
        subst e
        refine ⟨?_, ?_⟩
        · rw [ren_add]
          unfold Instr.indexAt
          simp [ren, asIntOf, Instr.sureAddr, Sem.run_bind, run_underlying hu, hi, run_sizeOf' hf]
        · simp only [okV, add_block] at o ⊢
          exact o
      · cases e
    · cases e
  · cases e
end
end Go.Vm

/- VmE: A machine for closed runs, fifth part: aggregates, slices. -/
namespace Go.Vm
open Go Go.RowKit

theorem pureRun_bind {α β : Type} (P : Program) (s : Sem α) (f : α → Sem β) : pureRun P (s >>= f) = (pureRun P s).bind fun a => pureRun P (f a) := by
  show pureRun P (s.bind f) = _
  induction s with
  | program k ih => simp only [Sem.bind, pureRun]; exact ih _
  | pure a => rfl
  | _ => rfl

section
variable {P : Program} {w0 w w' : World} {φ φ' : Nat → Nat × Nat} {κ κ' : Nat → Nat} {h h' : AH}

theorem renA_get (φ : Nat → Nat × Nat) (κ : Nat → Nat) (a : Array Value) (i : Nat) : (renA φ κ a)[i]? = (a[i]?).map (ren φ κ) := by
  rw [renA_map]; simp
theorem renA_size (φ : Nat → Nat × Nat) (κ : Nat → Nat) (a : Array Value) : (renA φ κ a).size = a.size := by
  rw [renA_map]; simp

/- a part of an aggregate -/
def aPart (P : Program) (t : TypeId) (cs : Array Value) (off : Nat) : Option Value :=
  match P.underlying t, P.info? t with
  | some d, some i => if isAggD d then some (.agg (cs.extract off (off + i.size))) else cs[off]?
  | _, _ => none
theorem aPart_sound {N : Nat → Prop} {t : TypeId} {cs : Array Value} {off : Nat} {v : Value} (e : aPart P t cs off = some v) (o : okA N κ cs) :
    (part t (renA φ κ cs) off).run P w = .ok (ren φ κ v) w ∧ okV N κ v := by
  unfold aPart at e
  split at e
  · rename_i d i hd hi
    unfold part
    rw [Sem.run_bind, run_isAgg' hd]
    simp only [Result.andThen_ok]
    split at e
    · rename_i ha
      injection e with e
      subst e
      simp only [ha, if_true, Sem.run_bind, run_sizeOf' hi, Result.andThen_ok, Sem.run_pure]
      refine ⟨?_, ?_⟩
      · simp [ren, renA_map]
      · simp only [okV]
        rw [okA_iff] at o ⊢
        intro x hx
        exact o x (by
          rw [Array.toList_extract] at hx
          exact List.mem_of_mem_drop (List.mem_of_mem_take (by simpa [List.extract] using hx)))
    · rename_i ha
      have ha' : isAggD d = false := by simpa using ha
      simp only [ha', Bool.false_eq_true, if_false, renA_get, e, Option.map_some, Sem.run_pure]
      exact ⟨trivial, okA_iff.1 o v (by
        obtain ⟨hlt, hv⟩ := Array.getElem?_eq_some_iff.1 e
        exact hv ▸ (by simp))⟩
  · cases e

def aField (P : Program) (t : TypeId) (f : Nat) (x : Value) : Option Value :=
  match x, fieldOf P t f with
  | .agg cs, some fd => aPart P fd.type cs fd.offset
  | _, _ => none
theorem aField_sound {N : Nat → Prop} {t : TypeId} {f : Nat} {x v : Value} (e : aField P t f x = some v) (o : okV N κ x) :
    (Instr.field t (ren φ κ x) f).run P w = .ok (ren φ κ v) w ∧ okV N κ v := by
  unfold aField at e
  split at e
  · rename_i cs fd hf
    unfold fieldOf at hf
    split at hf
    · rename_i fields hu
      obtain ⟨h1, h2⟩ := aPart_sound (w := w) (φ := φ) e (by simpa only [okV] using o)
      refine ⟨?_, h2⟩
      unfold Instr.field
      simp only [Sem.run_bind, run_underlying hu, Result.andThen_ok, hf, ren, asAgg, Sem.run_pure, h1]
    · cases hf
  · cases e

def aExtract (x : Value) (i : Nat) : Option Value :=
  match x with
  | .tuple vs => vs[i]?
  | _ => none
theorem aExtract_sound {N : Nat → Prop} {x v : Value} {i : Nat} (e : aExtract x i = some v) (o : okV N κ x) :
    (Instr.extract (ren φ κ x) i).run P w = .ok (ren φ κ v) w ∧ okV N κ v := by
  unfold aExtract at e
  split at e
  · rename_i vs
    refine ⟨?_, ?_⟩
    · simp only [ren, Instr.extract, renA_get, e, Option.map_some]
      rfl
    · simp only [okV] at o
      obtain ⟨hlt, hv⟩ := Array.getElem?_eq_some_iff.1 e
      exact okA_iff.1 o v (hv ▸ (by simp))
  · cases e

/- parts laid into cells -/
def renP (φ : Nat → Nat × Nat) (κ : Nat → Nat) (ps : List (Nat × Value)) : List (Nat × Value) := ps.map fun p => (p.1, ren φ κ p.2)

theorem foldl_set_map (φ : Nat → Nat × Nat) (κ : Nat → Nat) (off : Nat) : ∀ (l : List (Value × Nat)) (cells : Array Value),
    (l.map fun p => (ren φ κ p.1, p.2)).foldl (fun cs (x : Value × Nat) => cs.setIfInBounds (off + x.2) x.1) (cells.map (ren φ κ)) = (l.foldl (fun cs (x : Value × Nat) => cs.setIfInBounds (off + x.2) x.1) cells).map (ren φ κ) := by
  intro l
  induction l with
  | nil => intro cells; rfl
  | cons p r ih =>
    intro cells
    simp only [List.map_cons, List.foldl_cons]
    rw [← ih]
    congr 1
    apply Array.ext_getElem?
    intro j
    simp only [Array.getElem?_setIfInBounds, Array.getElem?_map, Array.size_map]
    split
    · split <;> simp
    · rfl

theorem fill_ren (φ : Nat → Nat × Nat) (κ : Nat → Nat) (place : Nat → Option (Nat × Nat)) : ∀ (ps : List (Nat × Value)) (cells out : Array Value),
    Instr.fill place cells ps = some out → Instr.fill place (cells.map (ren φ κ)) (renP φ κ ps) = some (out.map (ren φ κ)) := by
  intro ps
  induction ps with
  | nil => intro cells out e; simp only [Instr.fill, Option.some.injEq] at e; subst e; rfl
  | cons p r ih =>
    intro cells out e
    obtain ⟨i, v⟩ := p
    simp only [Instr.fill, renP, List.map_cons] at e ⊢
    cases hp : place i with
    | none => rw [hp] at e; cases e
    | some q =>
      obtain ⟨off, size⟩ := q
      rw [hp] at e
      simp only [ren_cells, Array.size_map] at e ⊢
      split at e
      · cases e
      · rename_i hc
        rw [if_neg hc]
        have := ih _ _ e
        unfold renP at this
        rw [← this]
        congr 1
        rw [← Array.foldl_toList, ← Array.foldl_toList, ← foldl_set_map]
        congr 1
        rw [Array.toList_zipIdx, Array.toList_zipIdx, Array.toList_map, List.zipIdx_map]
        rfl

theorem foldl_set_ok {N : Nat → Prop} (off : Nat) : ∀ (l : List (Value × Nat)) (cells : Array Value), (∀ p ∈ l, okV N κ p.1) → okA N κ cells → okA N κ (l.foldl (fun cs (x : Value × Nat) => cs.setIfInBounds (off + x.2) x.1) cells) := by
  intro l
  induction l with
  | nil => intro cells _ o; exact o
  | cons p r ih =>
    intro cells hl o
    simp only [List.foldl_cons]
    refine ih _ (fun q hq => hl q (by simp [hq])) ?_
    rw [okA_iff] at o ⊢
    intro v hv
    rw [Array.toList_setIfInBounds] at hv
    rcases List.mem_or_eq_of_mem_set hv with hv | hv
    · exact o v hv
    · rw [hv]; exact hl p (by simp)

theorem fill_ok {N : Nat → Prop} (place : Nat → Option (Nat × Nat)) : ∀ (ps : List (Nat × Value)) (cells out : Array Value),
    Instr.fill place cells ps = some out → (∀ p ∈ ps, okV N κ p.2) → okA N κ cells → okA N κ out := by
  intro ps
  induction ps with
  | nil => intro cells out e _ o; simp only [Instr.fill, Option.some.injEq] at e; subst e; exact o
  | cons p r ih =>
    intro cells out e hp o
    obtain ⟨i, v⟩ := p
    simp only [Instr.fill] at e
    cases hq : place i with
    | none => rw [hq] at e; cases e
    | some q =>
      obtain ⟨off, size⟩ := q
      rw [hq] at e
      simp only at e
      split at e
      · cases e
      · refine ih _ _ e (fun q hq => hp q (by simp [hq])) ?_
        rw [← Array.foldl_toList]
        refine foldl_set_ok off _ _ (fun q hq => ?_) o
        have : q.1 ∈ v.cells.toList := by
          rw [Array.toList_zipIdx] at hq
          exact (List.mem_zipIdx' hq).2 ▸ List.getElem_mem _
        exact ok_cells (hp (i, v) (by simp)) _ this

def aPlaces (P : Program) (fields : Array Field) : Option (Array (Nat × Nat)) := pureRun P (fields.mapM fun f => do pure (f.offset, ← sizeOf f.type))

def aBuild (P : Program) (t : TypeId) (ps : List (Nat × Value)) : Option Value :=
  match zeroOf P t, P.underlying t with
  | some z, some (.struct fields) =>
    match aPlaces P fields with
    | some pl => (Instr.fill (pl[·]?) z.cells ps).map .agg
    | none => none
  | some z, some (.array _ el) =>
    match P.info? el with
    | some i => (Instr.fill (fun j => some (j * i.size, i.size)) z.cells ps).map .agg
    | none => none
  | _, _ => none

theorem map_ren_noAddr {z : Value} (hn : noAddr z = true) : z.cells.map (ren φ κ) = z.cells := by rw [← ren_cells, ren_noAddr _ _ _ hn]
theorem okA_noAddr_cells {N : Nat → Prop} {z : Value} (hn : noAddr z = true) : okA N κ z.cells := okA_iff.2 (ok_cells (ok_noAddr N κ z hn))

theorem aBuild_sound {N : Nat → Prop} {t : TypeId} {ps : List (Nat × Value)} {v : Value} (e : aBuild P t ps = some v) (o : ∀ p ∈ ps, okV N κ p.2) :
    (Instr.build t (renP φ κ ps).toArray).run P w = .ok (ren φ κ v) w ∧ okV N κ v := by
  unfold aBuild at e
  split at e
  · rename_i z fields hz hu
    obtain ⟨hn, i, hi, hz'⟩ := zeroOf_spec hz
    split at e
    · rename_i pl hpl
      cases hf : Instr.fill (pl[·]?) z.cells ps with
      | none => rw [hf] at e; cases e
      | some out =>
        rw [hf] at e
        injection e with e
        subst e
        refine ⟨?_, by simp only [okV]; exact fill_ok _ _ _ _ hf o (okA_noAddr_cells hn)⟩
        have h2 := fill_ren φ κ _ _ _ _ hf
        rw [map_ren_noAddr hn] at h2
        have h3 := pureRun_run (w := w) hpl
        unfold Instr.build
        simp only [Sem.run_bind, run_zeroValue' hi hz', Result.andThen_ok, run_underlying hu] at h3 ⊢
        rw [h3]
        simp only [Result.andThen_ok]
        rw [h2]
        simp [ren, renA_map]
    · cases e
  · rename_i z n el hz hu
    obtain ⟨hn, i, hi, hz'⟩ := zeroOf_spec hz
    split at e
    · rename_i j hj
      cases hf : Instr.fill (fun k => some (k * j.size, j.size)) z.cells ps with
      | none => rw [hf] at e; cases e
      | some out =>
        rw [hf] at e
        injection e with e
        subst e
        refine ⟨?_, by simp only [okV]; exact fill_ok _ _ _ _ hf o (okA_noAddr_cells hn)⟩
        have h2 := fill_ren φ κ _ _ _ _ hf
        rw [map_ren_noAddr hn] at h2
        unfold Instr.build
        simp only [Sem.run_bind, run_zeroValue' hi hz', Result.andThen_ok, run_underlying hu, run_sizeOf' hj]
        rw [h2]
        simp [ren, renA_map]
    · cases e
  · cases e

def zlist (z : Value) (n : Nat) : List Value := (List.range n).map fun i => z.cells[i % z.cells.size]!
theorem zlist_map (z : Value) (n : Nat) (hn : noAddr z = true) : (zlist z n).map (ren φ κ) = zlist z n := by
  unfold zlist
  rw [List.map_map]
  apply List.map_congr_left
  intro i _
  simp only [Function.comp]
  rcases Nat.lt_or_ge (i % z.cells.size) z.cells.size with hl | hl
  · rw [getElem!_pos z.cells _ hl]
    have := congrArg (fun a : Array Value => a[i % z.cells.size]?) (map_ren_noAddr (φ := φ) (κ := κ) hn)
    simpa [hl] using this
  · rw [getElem!_neg z.cells _ (by omega)]
    show ren φ κ (default : Value) = default
    rfl
theorem zlist_ok {N : Nat → Prop} (z : Value) (n : Nat) (hn : noAddr z = true) : ∀ v ∈ zlist z n, okV N κ v := by
  intro v hv
  unfold zlist at hv
  obtain ⟨i, _, rfl⟩ := List.mem_map.1 hv
  rcases Nat.lt_or_ge (i % z.cells.size) z.cells.size with hl | hl
  · rw [getElem!_pos z.cells _ hl]
    exact okA_iff.1 (okA_noAddr_cells (N := N) (κ := κ) hn) _ (by simp)
  · rw [getElem!_neg z.cells _ (by omega)]
    show okV N κ (default : Value)
    trivial

def aBuildSlice (P : Program) (h : AH) (t : TypeId) (len : Nat) (ps : List (Nat × Value)) : Option (Value × AH) :=
  match P.underlying t with
  | some (.slice el) =>
    match P.info? el, zeroOf P el with
    | some i, some z =>
      if len * i.size ≤ 16777216 then
        match Instr.fill (fun j => some (j * i.size, i.size)) (zlist z (len * i.size)).toArray ps with
        | some cells => some (.slice (some ⟨h.next, 0, none⟩) len len, h.new (.cells ⟨cells.toList, i.size, false⟩))
        | none => none
      else none
    | _, _ => none
  | _ => none
end
end Go.Vm

/- VmF: A machine for closed runs, sixth part: making and cutting slices, append, copy. -/
namespace Go.Vm
open Go Go.RowKit

section
variable {P : Program} {w0 w w' : World} {φ φ' : Nat → Nat × Nat} {κ κ' : Nat → Nat} {h h' : AH}

theorem slice_new {φ' : Nat → Nat × Nat} {k : Nat} (h2 : (φ' k).2 = 0) (n c : Nat) (hc : c < openB) (hk : κ' k ≠ 0) : ren φ' κ' (.slice (some ⟨k, 0, none⟩) n c) = .slice (some ⟨(φ' k).1, 0, none⟩) n c := by
  simp [ren, h2, hc, hk]
theorem ok_slice_closed {N : Nat → Prop} {k o n c : Nat} (hk : N k) (hc : c < openB) (hz : κ k ≠ 0) : okV N κ (.slice (some ⟨k, o, none⟩) n c) := by
  simp only [okV]
  exact ⟨hk, fun e => absurd e hz, fun e => by omega⟩
theorem ren_slice {N : Nat → Prop} {a : Addr} {n c : Nat} (o : okV N κ (.slice (some a) n c)) : ren φ κ (.slice (some a) n c) = .slice (if κ a.block = 0 then dec (φ a.block).1 else some ⟨(φ a.block).1, (φ a.block).2 + a.off, a.spot⟩) n (if c < openB then c else κ a.block - 1 - (c - openB)) := by
  simp only [okV] at o
  simp only [ren]
  by_cases hk : κ a.block = 0
  · rw [if_pos hk, if_pos hk]
    congr 1
    split
    · rename_i hc
      exact ((o.2.1 hk).2 hc).symm
    · omega
  · rw [if_neg hk, if_neg hk]

theorem range_map_zlist (z : Value) (n : Nat) : ((Array.range n).map fun i => z.cells[i % z.cells.size]!) = (zlist z n).toArray := by
  apply Array.ext'
  simp [zlist, Array.toList_range]

theorem aBuildSlice_sound (R : Rel w0 φ κ h w) {t : TypeId} {len : Nat} {ps : List (Nat × Value)} {r : Value × AH} (e : aBuildSlice P h t len ps = some r) (o : ∀ p ∈ ps, okV h.N κ p.2) (hl : len < openB) :
    ∃ φ' κ' w', (Instr.buildSlice t len (renP φ κ ps).toArray).run P w = .ok (ren φ' κ' r.1) w' ∧ Step w0 φ κ h φ' κ' r.2 w' ∧ okV r.2.N κ' r.1 := by
  unfold aBuildSlice at e
  split at e
  · rename_i el hu
    split at e
    · rename_i i z hi hz
      split at e
      · rename_i hle
        obtain ⟨hn, i', hi', hz'⟩ := zeroOf_spec hz
        obtain rfl : i = i' := Option.some.inj (hi.symm.trans hi')
        split at e
        · rename_i cells hf
          injection e with e
          subst e
          have hok : okA h.N κ cells := fill_ok _ _ _ _ hf o (by simp only [okA, okL_iff]; exact zlist_ok z _ hn)
          obtain ⟨φ', κ', w', h1, h2, h3, h4, h5⟩ := R.row (P := P) (cs := cells.toList) (okA_iff.1 hok) el i.size
          refine ⟨φ', κ', w', ?_, h3, ok_slice_closed h4 hl h5⟩
          have hff := fill_ren φ κ _ _ _ _ hf
          have hzl : ((zlist z (len * i.size)).toArray.map (ren φ κ)) = (zlist z (len * i.size)).toArray := by
            rw [List.map_toArray, zlist_map z _ hn]
          rw [hzl] at hff
          have hcells : (cells.toList.map (ren φ κ)).toArray = cells.map (ren φ κ) := by apply Array.ext'; simp
          rw [hcells] at h1
          unfold Instr.buildSlice
          simp only [Sem.run_bind, run_underlying hu, Result.andThen_ok, run_sizeOf' hi]
          rw [if_neg (by omega)]
          have hfin : (do let cells' ← newRow el (cells.map (ren φ κ)); pure (Value.slice (some cells') len len) : Sem Value).run P w = .ok (ren φ' κ' (.slice (some ⟨h.next, 0, none⟩) len len)) w' := by
            rw [Sem.run_bind, h1, slice_new h2 _ _ hl h5]
            rfl
          by_cases h0 : len * i.size = 0
          · rw [if_pos h0]
            have hz0 : ((Array.range (len * i.size)).map fun j => (#[] : Array Value)[j % (#[] : Array Value).size]!) = (zlist z (len * i.size)).toArray := by rw [h0]; apply Array.ext'; simp [zlist]
            simp only [Sem.run_bind, Sem.run_pure, Result.andThen_ok, hz0, hff]
            simpa only [Sem.run_bind, Sem.run_pure] using hfin
          · rw [if_neg h0]
            simp only [Sem.run_bind, Sem.run_pure, Result.andThen_ok, run_zeroValue' hi hz', range_map_zlist, hff]
            simpa only [Sem.run_bind, Sem.run_pure] using hfin
        · cases e
      · cases e
    · cases e
  · cases e

def aMakeSlice (P : Program) (h : AH) (t : TypeId) (len cap : Value) : Option (Value × AH) :=
  match P.underlying t, len, cap with
  | some (.slice el), .int _ l, .int _ c =>
    match P.info? el, zeroOf P el with
    | some i, some z =>
      if 0 ≤ l ∧ l ≤ c ∧ c ≤ 16777216 ∧ i.bytes ≤ 16777216 then
        some (.slice (some ⟨h.next, 0, none⟩) l.toNat c.toNat, h.new (.cells ⟨zlist z (c.toNat * i.size), i.size, false⟩))
      else none
    | _, _ => none
  | _, _, _ => none
theorem run_askRoom (n : Nat) (w : World) : (askRoom n).run P w = .ok () w := by
  unfold askRoom
  split <;> rfl
theorem wrap64_id {n : Int} (h0 : 0 ≤ n) (h1 : n ≤ 16777216) : IntKind.i64.wrap n = n := by
  have e : IntKind.i64.bits = 64 := rfl
  unfold IntKind.wrap
  simp [IntKind.bits, IntKind.signed]
  omega
theorem aMakeSlice_sound (R : Rel w0 φ κ h w) {t : TypeId} {l c : Value} {r : Value × AH} (e : aMakeSlice P h t l c = some r) :
    ∃ φ' κ' w', (Instr.makeSlice t (ren φ κ l) (ren φ κ c)).run P w = .ok (ren φ' κ' r.1) w' ∧ Step w0 φ κ h φ' κ' r.2 w' ∧ okV r.2.N κ' r.1 := by
  unfold aMakeSlice at e
  split at e
  · rename_i el _ l _ c hu
    split at e
    · rename_i i z hi hz
      split at e
      · rename_i hc
        obtain ⟨c1, c2, c3, c4⟩ := hc
        obtain ⟨hn, i', hi', hz'⟩ := zeroOf_spec hz
        obtain rfl : i = i' := Option.some.inj (hi.symm.trans hi')
        injection e with e
        subst e
        have hcb : c.toNat < openB := by unfold openB; omega
        obtain ⟨φ', κ', w', h1, h2, h3, h4, h5⟩ := R.row (P := P) (cs := zlist z (c.toNat * i.size)) (zlist_ok z _ hn) el i.size
        refine ⟨φ', κ', w', ?_, h3, ok_slice_closed h4 hcb h5⟩
        rw [zlist_map z _ hn] at h1
        have hb : ((i.bytes : Int) * c) ≤ 281474976710656 := by
          have : ((i.bytes : Int)) ≤ 16777216 := by omega
          have h0 : (0 : Int) ≤ c := by omega
          calc (i.bytes : Int) * c ≤ 16777216 * c := Int.mul_le_mul_of_nonneg_right this h0
            _ ≤ 16777216 * 16777216 := Int.mul_le_mul_of_nonneg_left c3 (by omega)
            _ = 281474976710656 := by decide
        unfold Instr.makeSlice
        simp only [ren, Sem.run_bind, run_underlying hu, Result.andThen_ok, asInt, asIntOf, Sem.run_pure, run_typeInfo' hi, wrap64_id (Int.le_trans c1 c2) c3, wrap64_id c1 (Int.le_trans c2 c3)]
        rw [if_neg (by simp; omega)]
        have hfin : (do let a ← newRow el (zlist z (c.toNat * i.size)).toArray; pure (Value.slice (some a) l.toNat c.toNat) : Sem Value).run P w = .ok (ren φ' κ' (.slice (some ⟨h.next, 0, none⟩) l.toNat c.toNat)) w' := by
          rw [Sem.run_bind, h1, slice_new h2 _ _ hcb h5]
          rfl
        simp only [Sem.run_bind, run_askRoom, Result.andThen_ok, run_sizeOf' hi]
        by_cases h0 : c.toNat * i.size = 0
        · rw [if_pos h0]
          have hz0 : ((Array.range (c.toNat * i.size)).map fun j => (#[] : Array Value)[j % (#[] : Array Value).size]!) = (zlist z (c.toNat * i.size)).toArray := by rw [h0]; apply Array.ext'; simp [zlist]
          simp only [Sem.run_bind, Sem.run_pure, Result.andThen_ok, hz0]
          simpa only [Sem.run_bind, Sem.run_pure, ren] using hfin
        · rw [if_neg h0]
          simp only [Sem.run_bind, Sem.run_pure, Result.andThen_ok, run_zeroValue' hi hz', range_map_zlist]
          simpa only [Sem.run_bind, Sem.run_pure, ren] using hfin
      · cases e
    · cases e
  · cases e

/- a bound of a cut: none, or an int -/
def natOf : Option Value → Nat → Option Nat
  | none, d => some d
  | some (.int _ i), _ => if 0 ≤ i then some i.toNat else none
  | _, _ => none

/- x[l:h], x[l:h:m], of a slice -/
def optNo : Option Value → Bool
  | none => true
  | some v => noAddr v
theorem optNo_map {φ : Nat → Nat × Nat} {κ : Nat → Nat} : ∀ {v : Option Value}, optNo v = true → v.map (ren φ κ) = v
  | none, _ => rfl
  | some v, h => by rw [Option.map_some, ren_noAddr _ _ _ h]
def aSlice (P : Program) (t : TypeId) (x : Value) (lo hi mx : Option Value) : Option Value :=
  match P.underlying t, x with
  | some (.slice el), .slice a n c =>
    match P.info? el, natOf lo 0, natOf hi n, natOf mx c with
    | some f, some l, some hh, some m =>
      if c < openB then
        if l ≤ hh ∧ hh ≤ m ∧ m ≤ c ∧ (hi.isSome || mx.isNone) ∧ (hi.isSome || n ≤ c) then some (.slice (if m = l then a else a.map (·.add (l * f.size))) (hh - l) (m - l)) else none
      else
        match a with
        | none => none
        | some a =>
          if mx.isSome then
            if l ≤ hh ∧ hh ≤ m ∧ m ≤ n ∧ m < openB ∧ hi.isSome then some (.slice (some (if m = l then a else a.add (l * f.size))) (hh - l) (m - l)) else none
          else
            if l ≤ hh ∧ hh ≤ n ∧ (l < hh ∨ l = 0) then some (.slice (some (a.add (l * f.size))) (hh - l) (c + l)) else none
    | _, _, _, _ => none
  | some (.array n el), .pointer (some a) =>
    match P.info? el, natOf lo 0, natOf hi n, natOf mx n with
    | some f, some l, some hh, some m => if l ≤ hh ∧ hh ≤ m ∧ m ≤ n ∧ (hi.isSome || mx.isNone) ∧ n < openB then some (.slice (some (if m = l then a else a.add (l * f.size))) (hh - l) (m - l)) else none
    | _, _, _, _ => none
  | some .string, .string s => if optNo lo && optNo hi && optNo mx then match pureRun P (Instr.sliceAt t (.string s) lo hi mx) with
      | some (.string r) => some (.string r)
      | _ => none
    else none
  | _, _ => none

theorem run_bound {v : Value} {d l y : Nat} {code : BoundsCode} (e : natOf (some v) d = some l) (hl : l ≤ y) (w : World) : (Instr.sliceBound (ren φ κ v) y code).run P w = .ok l w := by
  unfold natOf at e
  split at e
  · rename_i h1; cases h1
  · rename_i k i h1
    injection h1 with h1
    subst h1
    split at e
    · rename_i h0
      injection e with e
      subst e
      have hi : i ≤ (y : Int) := by omega
      simp [ren, Instr.sliceBound, asIntOf, h0, hi]
    · cases e
  · cases e

theorem run_bounds {isS : Bool} {n C l hh m : Nat} {lo hi mx : Option Value} {d : Nat} (e1 : natOf lo 0 = some l) (e2 : natOf hi n = some hh) (e3 : mx.isSome → natOf mx d = some m) (h1 : l ≤ hh) (h2 : hi.isSome → hh ≤ m) (h3 : m ≤ C) (h4 : hi.isSome ∨ mx.isNone) (h5 : mx.isNone → m = C) (w : World) :
    (Instr.sliceBounds isS n C (lo.map (ren φ κ)) (hi.map (ren φ κ)) (mx.map (ren φ κ))).run P w = .ok (l, hh, m) w := by
  unfold Instr.sliceBounds
  cases mx with
  | none =>
    obtain rfl : m = C := h5 rfl
    simp only [Option.map_none, Sem.run_bind, Sem.run_pure, Result.andThen_ok]
    cases hi with
    | none =>
      simp only [natOf, Option.some.injEq] at e2
      subst e2
      simp only [Option.map_none, Sem.run_bind, Sem.run_pure, Result.andThen_ok]
      cases lo with
      | none =>
        simp only [natOf, Option.some.injEq] at e1
        subst e1
        simp
      | some v => simp only [Option.map_some, Sem.run_bind, run_bound e1 h1, Result.andThen_ok, Sem.run_pure]
    | some u =>
      simp only [Option.map_some, Sem.run_bind, run_bound e2 (h2 rfl), Result.andThen_ok]
      cases lo with
      | none =>
        simp only [natOf, Option.some.injEq] at e1
        subst e1
        simp
      | some v => simp only [Option.map_some, Sem.run_bind, run_bound e1 h1, Result.andThen_ok, Sem.run_pure]
  | some z =>
    have e3' := e3 rfl
    simp only [Option.map_some, Sem.run_bind, run_bound e3' h3, Result.andThen_ok]
    cases hi with
    | none => simp at h4
    | some u =>
      simp only [Option.map_some, Sem.run_bind, run_bound e2 (h2 rfl), Result.andThen_ok]
      cases lo with
      | none =>
        simp only [natOf, Option.some.injEq] at e1
        subst e1
        simp
      | some v => simp only [Option.map_some, Sem.run_bind, run_bound e1 h1, Result.andThen_ok, Sem.run_pure]

theorem run_sliceAt {t el : TypeId} {f : TypeInfo} {A : Option Addr} {n C l hh m : Nat} {lo hi mx : Option Value} (hu : P.underlying t = some (.slice el)) (hf : P.info? el = some f) (hb : (Instr.sliceBounds true n C lo hi mx).run P w = .ok (l, hh, m) w) :
    (Instr.sliceAt t (.slice A n C) lo hi mx).run P w = .ok (.slice (if m = l then A else A.map (·.add (l * f.size))) (hh - l) (m - l)) w := by
  simp [Instr.sliceAt, Instr.slice, Sem.run_bind, run_underlying hu, hb, run_sizeOf' hf]
theorem add_ren (φ : Nat → Nat × Nat) (a : Addr) (n : Nat) : (⟨(φ a.block).1, (φ a.block).2 + a.off, a.spot⟩ : Addr).add n = ⟨(φ (a.add n).block).1, (φ (a.add n).block).2 + (a.add n).off, (a.add n).spot⟩ := by
  have ha := ren_add φ (fun _ => 0) a n
  simp only [ren, Value.pointer.injEq, Option.some.injEq] at ha
  exact ha.symm

theorem aSlice_sound {N : Nat → Prop} {t : TypeId} {x v : Value} {lo hi mx : Option Value} (e : aSlice P t x lo hi mx = some v) (o : okV N κ x) :
    (Instr.sliceAt t (ren φ κ x) (lo.map (ren φ κ)) (hi.map (ren φ κ)) (mx.map (ren φ κ))).run P w = .ok (ren φ κ v) w ∧ okV N κ v := by
  unfold aSlice at e
  split at e
  · rename_i el a n c hu
    split at e
    · rename_i f l hh m hf e1 e2 e3
      have hmx : mx.isNone → m = c := by
        intro hn
        cases mx with
        | none => simpa [natOf] using e3.symm
        | some _ => cases hn
      split at e
      · rename_i hc
        split at e
        · rename_i hcond
          obtain ⟨c1, c2, c3, c4, c5⟩ := hcond
          injection e with e
          subst e
          have c4' : hi.isSome ∨ mx.isNone := by simpa using c4
          have hb := run_bounds (P := P) (isS := true) (φ := φ) (κ := κ) (C := c) e1 e2 (fun _ => e3) c1 (fun _ => c2) c3 c4' hmx w
          have hml : m - l < openB := by omega
          cases a with
          | none =>
            refine ⟨?_, by simp [okV]⟩
            simp [ren, Instr.sliceAt, Instr.slice, Sem.run_bind, run_underlying hu, hb, run_sizeOf' hf]
          | some a =>
            have ok : okV N κ (.slice (if m = l then some a else (some a).map (·.add (l * f.size))) (hh - l) (m - l)) := by
              simp only [okV] at o
              by_cases hm : m = l
              · simp only [hm, if_true, okV]; exact ⟨o.1, fun hk => by have := (o.2.1 hk).2 hc; omega, fun e => by omega⟩
              · simp only [hm, if_false, Option.map_some, okV, add_block]; exact ⟨o.1, fun hk => by have := (o.2.1 hk).2 hc; omega, fun e => by omega⟩
            refine ⟨?_, ok⟩
            rw [ren_slice o, if_pos hc, run_sliceAt hu hf hb]
            by_cases hm : m = l
            · rw [if_pos hm] at ok
              rw [if_pos hm, if_pos hm, ren_slice ok, if_pos hml]
            · rw [if_neg hm] at ok
              rw [if_neg hm, if_neg hm]
              simp only [Option.map_some] at ok ⊢
              rw [ren_slice ok, if_pos hml, add_block]
              by_cases hk : κ a.block = 0
              · simp only [okV] at o; have := (o.2.1 hk).2 hc; omega
              · rw [if_neg hk, if_neg hk, Option.map_some, add_ren, add_block]
        · cases e
      · rename_i hc
        split at e
        · cases e
        · rename_i a
          have o' := o
          simp only [okV] at o
          have ho := o.2.2 (by omega)
          rw [ren_slice o', if_neg hc]
          split at e
          · rename_i hs
            split at e
            · rename_i hcond
              obtain ⟨c1, c2, c3, c5, c4⟩ := hcond
              injection e with e
              subst e
              have hb := run_bounds (P := P) (isS := true) (φ := φ) (κ := κ) (C := κ a.block - 1 - (c - openB)) e1 e2 (fun _ => e3) c1 (fun _ => c2) (by omega) (Or.inl c4) (fun hn => by rw [Option.isNone_iff_eq_none] at hn; rw [hn] at hs; cases hs) w
              have hml : m - l < openB := by omega
              rw [run_sliceAt hu hf hb]
              have ok : okV N κ (.slice (some (if m = l then a else a.add (l * f.size))) (hh - l) (m - l)) := by
                by_cases hm : m = l
                · simp only [hm, if_true, okV]; exact ⟨o.1, fun hk => by have := (o.2.1 hk).1; omega, fun e => by omega⟩
                · simp only [hm, if_false, okV, add_block]; exact ⟨o.1, fun hk => by have := (o.2.1 hk).1; omega, fun e => by omega⟩
              refine ⟨?_, ok⟩
              by_cases hm : m = l
              · rw [if_pos hm] at ok
                rw [if_pos hm, if_pos hm, ren_slice ok, if_pos hml]
              · rw [if_neg hm] at ok
                rw [if_neg hm, if_neg hm, ren_slice ok, if_pos hml, add_block]
                by_cases hk : κ a.block = 0
                · have := (o.2.1 hk).1; omega
                · rw [if_neg hk, if_neg hk, Option.map_some, add_ren, add_block]
            · cases e
          · rename_i hs
            split at e
            · rename_i hcond
              obtain ⟨c1, c2, c3⟩ := hcond
              injection e with e
              subst e
              have hnone : mx = none := by cases mx with | none => rfl | some _ => simp at hs
              subst hnone
              have hb := run_bounds (P := P) (isS := true) (φ := φ) (κ := κ) (C := κ a.block - 1 - (c - openB)) (m := κ a.block - 1 - (c - openB)) (mx := none) (d := 0) e1 e2 (fun hn => by cases hn) c1 (fun _ => by omega) (Nat.le_refl _) (Or.inr rfl) (fun _ => rfl) w
              rw [run_sliceAt hu hf hb]
              have ok : okV N κ (.slice (some (a.add (l * f.size))) (hh - l) (c + l)) := by
                simp only [okV, add_block]; exact ⟨o.1, fun hk => ⟨by have := (o.2.1 hk).1; omega, fun e => by omega⟩, fun e => by omega⟩
              refine ⟨?_, ok⟩
              have hcl : ¬ c + l < openB := by omega
              rw [ren_slice ok, if_neg hcl, add_block]
              have hcap : κ a.block - 1 - (c - openB) - l = κ a.block - 1 - (c + l - openB) := by omega
              rw [hcap]
              congr 2
              by_cases hk : κ a.block = 0
              · rw [if_pos hk, if_pos hk]
                have := (o.2.1 hk).1
                rw [if_pos (by omega)]
              · rw [if_neg hk, if_neg hk, Option.map_some, add_ren, add_block]
                split
                · rcases c3 with c3 | c3
                  · omega
                  · subst c3
                    simp [Addr.add]
                · rfl
            · cases e
    · cases e
  · rename_i n el a hu
    · split at e
      · rename_i f l hh m hf e1 e2 e3
        have hmx : mx.isNone → m = n := by
          intro hn
          cases mx with
          | none => simpa [natOf] using e3.symm
          | some _ => cases hn
        split at e
        · rename_i hcond
          obtain ⟨c1, c2, c3, c4, c5⟩ := hcond
          injection e with e
          subst e
          have c4' : hi.isSome ∨ mx.isNone := by simpa using c4
          have hb := run_bounds (P := P) (isS := false) (φ := φ) (κ := κ) (C := n) e1 e2 (fun _ => e3) c1 (fun _ => c2) c3 c4' hmx w
          have hml : m - l < openB := by omega
          simp only [okV] at o
          have ok : okV N κ (.slice (some (if m = l then a else a.add (l * f.size))) (hh - l) (m - l)) := by
            by_cases hm : m = l
            · simp only [hm, if_true, okV]; exact ⟨o.1, fun hk => absurd hk o.2, fun e => by omega⟩
            · simp only [hm, if_false, okV, add_block]; exact ⟨o.1, fun hk => absurd hk o.2, fun e => by omega⟩
          refine ⟨?_, ok⟩
          have hl : (Instr.sliceAt t (ren φ κ (.pointer (some a))) (lo.map (ren φ κ)) (hi.map (ren φ κ)) (mx.map (ren φ κ))).run P w = .ok (.slice (some (if m = l then (⟨(φ a.block).1, (φ a.block).2 + a.off, a.spot⟩ : Addr) else (⟨(φ a.block).1, (φ a.block).2 + a.off, a.spot⟩ : Addr).add (l * f.size))) (hh - l) (m - l)) w := by
            simp [ren, Instr.sliceAt, Instr.sureAddr, Sem.run_bind, run_underlying hu, hb, run_sizeOf' hf]
          rw [hl, ren_slice ok]
          by_cases hm : m = l
          · rw [if_pos hm, if_pos hm, if_neg o.2, if_pos hml]
          · rw [if_neg hm, if_neg hm, if_neg (by rw [add_block]; exact o.2), if_pos hml, add_ren]
        · cases e
      · cases e
  · rename_i st hu
    split at e
    · rename_i hno
      simp only [Bool.and_eq_true] at hno
      split at e
      · rename_i r hr
        injection e with e
        subst e
        refine ⟨?_, by simp [okV]⟩
        rw [show ren φ κ (.string st) = .string st by simp [ren], show ren φ κ (.string r) = .string r by simp [ren], optNo_map hno.1.1, optNo_map hno.1.2, optNo_map hno.2]
        exact pureRun_run hr
      · cases e
    · cases e
  · cases e

/- x[l:l] at a slice whose room is not known: nothing is in it, and where it begins is not known -/
def aSliceEnd (P : Program) (h : AH) (t : TypeId) (x : Value) (lo hi mx : Option Value) : Option (Value × AH) :=
  match P.underlying t, x, mx with
  | some (.slice el), .slice (some ⟨_, _, none⟩) n c, none =>
    match P.info? el, natOf lo 0, natOf hi n with
    | some _, some l, some hh => if openB ≤ c ∧ l = hh ∧ hh ≤ n then some (.slice (some ⟨h.next, 0, none⟩) 0 openB, h.bump) else none
    | _, _, _ => none
  | _, _, _ => none
theorem aSliceEnd_sound (R : Rel w0 φ κ h w) {t : TypeId} {x : Value} {lo hi mx : Option Value} {r : Value × AH} (e : aSliceEnd P h t x lo hi mx = some r) (o : okV h.N κ x) :
    ∃ φ' κ' w', (Instr.sliceAt t (ren φ κ x) (lo.map (ren φ κ)) (hi.map (ren φ κ)) (mx.map (ren φ κ))).run P w = .ok (ren φ' κ' r.1) w' ∧ Step w0 φ κ h φ' κ' r.2 w' ∧ okV r.2.N κ' r.1 := by
  unfold aSliceEnd at e
  split at e
  · rename_i el k off n c hu
    split at e
    · rename_i f l hh hf e1 e2
      split at e
      · rename_i hc
        obtain ⟨c1, c2, c3⟩ := hc
        subst c2
        injection e with e
        subst e
        have o' := o
        simp only [okV] at o
        have ho := o.2.2 c1
        have hb := run_bounds (P := P) (isS := true) (φ := φ) (κ := κ) (C := κ k - 1 - (c - openB)) (m := κ k - 1 - (c - openB)) (mx := none) (d := 0) e1 e2 (fun hn => by cases hn) (Nat.le_refl _) (fun _ => by omega) (Nat.le_refl _) (Or.inr rfl) (fun _ => rfl) w
        simp only [Option.map_none] at hb ⊢
        have hcl : ¬ c < openB := by omega
        let p : Nat × Nat := if κ k = 0 then φ k else if κ k - 1 - (c - openB) = l then ((φ k).1, (φ k).2 + off) else ((φ k).1, (φ k).2 + off + l * f.size)
        let K := if κ k = 0 then 0 else κ k - 1 - (c - openB) - l + 1
        have S := R.bump p K
        have ok : okV h.bump.N (upd κ h.next K) (.slice (some ⟨h.next, 0, none⟩) 0 openB) := by
          simp only [okV]
          refine ⟨bump_sees R.hid, fun _ => ⟨trivial, fun e => absurd e (Nat.lt_irrefl _)⟩, fun _ => ?_⟩
          rw [Nat.sub_self]
          exact Nat.zero_le _
        refine ⟨_, _, _, ?_, S, ok⟩
        rw [ren_slice o', if_neg hcl, run_sliceAt hu hf hb, Nat.sub_self, ren_slice ok, if_neg (Nat.lt_irrefl _), Nat.sub_self, Nat.sub_zero]
        simp only [upd_same]
        by_cases hk : κ k = 0
        · have hK : K = 0 := if_pos hk
          have hp : p = φ k := if_pos hk
          have := (o.2.1 hk).1
          rw [if_pos hk, hK, hp, if_pos (by omega), if_pos rfl, hk]
          congr 2
          omega
        · have hK : K = κ k - 1 - (c - openB) - l + 1 := if_neg hk
          rw [if_neg hk, hK, if_neg (Nat.succ_ne_zero _), Nat.add_sub_cancel]
          congr 2
          by_cases hm : κ k - 1 - (c - openB) = l
          · rw [if_pos hm]
            have : p = ((φ k).1, (φ k).2 + off) := (if_neg hk).trans (if_pos hm)
            rw [this]
            rfl
          · rw [if_neg hm]
            have : p = ((φ k).1, (φ k).2 + off + l * f.size) := (if_neg hk).trans (if_neg hm)
            rw [this, Option.map_some, add_none]
            rfl
      · cases e
    · cases e
  · cases e
end
end Go.Vm

/- VmG: A machine for closed runs, seventh part: append and copy. -/
namespace Go.Vm
open Go Go.RowKit

section
variable {P : Program} {w0 w w' : World} {φ φ' : Nat → Nat × Nat} {κ κ' : Nat → Nat} {h h' : AH}

theorem Rel.drawn (R : Rel w0 φ κ h w) (d : Nat) : Rel w0 φ κ h { w with drawn := d } :=
  ⟨⟨R.below.os, R.below.tape, R.below.output, R.below.size, R.below.block⟩, R.hid, R.wl, fun k o g => (R.ent k o g).move (fun _ s => s) (fun _ _ => ⟨rfl, rfl⟩) ⟨rfl, rfl⟩ fun _ => rfl, R.own, R.inj⟩

/- the first n elements of a slice -/
def aFirst (h : AH) (size n : Nat) : Value → Option (List Value)
  | .slice none _ _ => if n * size = 0 then some [] else none
  | .slice (some ⟨k, o, none⟩) _ _ =>
    if n * size = 0 then some []
    else match h.get k with
      | some (.cells b) => if o + n * size ≤ b.cells.length then some ((b.cells.drop o).take (n * size)) else none
      | _ => none
  | _ => none
theorem aFirst_sound (R : Rel w0 φ κ h w) {size n : Nat} {x : Value} {cs : List Value} (e : aFirst h size n x = some cs) :
    (Builtin.firstCells size n (ren φ κ x)).run P w = .ok (cs.map (ren φ κ)).toArray w ∧ (∀ v ∈ cs, okV h.N κ v) ∧ cs.length = n * size := by
  unfold aFirst at e
  split at e
  · split at e
    · rename_i hz
      injection e with e
      subst e
      exact ⟨rfl, by simp, by simp [hz]⟩
    · cases e
  · rename_i k o ln cp
    split at e
    · rename_i hz
      injection e with e
      subst e
      refine ⟨?_, by simp, by simp [hz]⟩
      simp only [ren]
      split
      · cases dec (φ k).1 <;> (simp only [Builtin.firstCells, hz]; rfl)
      · simp only [Builtin.firstCells, hz]; rfl
    · split at e
      · rename_i b g
        split at e
        · rename_i hz hl
          injection e with e
          subst e
          have hk : κ k ≠ 0 := R.nz g (fun e => by rw [e, List.length_nil] at hl; omega)
          refine ⟨?_, ?_, by simp; omega⟩
          · simp only [ren, if_neg hk, Builtin.firstCells]
            exact R.loadCells g hl
          · intro v hv
            exact R.okCells g v (List.mem_of_mem_drop (List.mem_of_mem_take hv))
        · cases e
      · cases e
  · cases e

theorem growBy_le (newLen B : Nat) (hB : 2 * newLen + 1024 ≤ B) : ∀ (r c : Nat), c ≤ B → Builtin.growBy newLen r c ≤ B := by
  intro r
  induction r with
  | zero => intro c hc; exact hc
  | succ r ih =>
    intro c hc
    simp only [Builtin.growBy]
    split
    · exact hc
    · exact ih _ (by omega)
theorem nextcap_le {need C : Nat} (h : C ≤ need) : Builtin.nextslicecap need C ≤ 2 * need + 1024 := by
  unfold Builtin.nextslicecap
  split
  · omega
  · split
    · omega
    · exact growBy_le need _ (Nat.le_refl _) 4 C (by omega)

def isIntD : TypeDesc → Bool
  | .int _ => true
  | _ => false

def aGrow (h : AH) (size sLen n : Nat) (s x : Value) : Option (Value × AH) :=
  match aFirst h size sLen s, aFirst h size n x with
  | some old, some new => some (.slice (some ⟨h.next, 0, none⟩) (sLen + n) openB, h.new (.cells ⟨old ++ new, size, true⟩))
  | _, _ => none

def aAppend (P : Program) (h : AH) (ts : Array TypeId) (s x : Value) : Option (Value × AH) :=
  match ts[0]?, ts[1]? with
  | some sT, some xT =>
    match P.underlying sT, P.underlying xT, s, x with
    | some (.slice el), some dx, .slice base sLen sCap, .slice _ n _ =>
      match P.info? el, zeroOf P el with
      | some i, some z =>
        if isIntD dx || z.cells.size != i.size || i.bytes == 0 || i.size == 0 then none
        else if n = 0 then (if sCap < openB ∧ sLen ≤ sCap ∨ openB ≤ sCap ∧ base.isSome = true then some (s, h) else none)
        else if sCap < openB then
          if sLen + n ≤ sCap then
            match base with
            | some ⟨k, o, none⟩ =>
              match h.get k, aFirst h i.size n x with
              | some (.cells b), some new => if h.wlim ≤ k ∧ o + sLen * i.size + n * i.size ≤ b.cells.length ∧ new.all Value.oneCell' = true ∧ b.esz ≠ 0 then some (.slice base (sLen + n) sCap, h.put k (some (.cells { b with cells := writeAt b.cells (o + sLen * i.size) new }))) else none
              | _, _ => none
            | _ => none
          else if Builtin.nextslicecap (sLen + n) sCap * i.bytes ≤ 281474976710656 then aGrow h i.size sLen n s x else none
        else
          match base with
          | some ⟨k, o, none⟩ =>
            match h.get k with
            | some (.cells b) =>
              if h.wlim ≤ k ∧ b.opn = true ∧ b.esz = i.size ∧ o = (sCap - openB) * i.size ∧ (2 * (sLen + n) + 1024) * i.bytes ≤ 281474976710656 then
                match aFirst h i.size sLen s, aFirst h i.size n x with
                | some old, some new => if new.all Value.oneCell' = true then some (.slice (some ⟨h.next, 0, none⟩) (sLen + n) openB, (h.new (.cells ⟨old ++ new, i.size, true⟩)).put k none) else none
                | _, _ => none
              else none
            | _ => none
          | _ => none
      | _, _ => none
    | _, _, _, _ => none
  | _, _ => none

theorem upd_ne0 (κ : Nat → Nat) (k x : Nat) : upd κ k (x + 1) k ≠ 0 := by rw [upd_same]; exact Nat.succ_ne_zero _
theorem ren_sl {φ : Nat → Nat × Nat} {κ : Nat → Nat} (xb : Option Addr) (n xc : Nat) : ∃ xb' xc', ren φ κ (.slice xb n xc) = .slice xb' n xc' := by
  cases xb with
  | none => exact ⟨_, _, rfl⟩
  | some a =>
    simp only [ren]
    split <;> exact ⟨_, _, rfl⟩
/- growing: a new block -/
theorem aGrow_sound (R : Rel w0 φ κ h w) {ts : Array TypeId} {ty sT xT el : TypeId} {dx : TypeDesc} {i : TypeInfo} {z : Value} {base xb : Option Addr} {sLen sCap n xc C : Nat} {cs : List Value}
    (t0 : ts[0]? = some sT) (t1 : ts[1]? = some xT) (hu : P.underlying sT = some (.slice el)) (hx : P.underlying xT = some dx) (hi : P.info? el = some i) (hz : zeroOf P el = some z) (hd : isIntD dx = false) (hzs : z.cells.size = i.size)
    (old new : List Value) (ho : aFirst h i.size sLen (.slice base sLen sCap) = some old) (hn : aFirst h i.size n (.slice xb n xc) = some new) (hcs : cs = old ++ new)
    {B : Option Addr} (hs : ren φ κ (.slice base sLen sCap) = .slice B sLen C)
    (hC : C < sLen + n) (hby : i.bytes ≠ 0) (hb : Builtin.nextslicecap (sLen + n) C * i.bytes ≤ 281474976710656) :
    ∃ φ' κ' w', (Builtin.append_ ts ty #[ren φ κ (.slice base sLen sCap), ren φ κ (.slice xb n xc)]).run P w = .ok (ren φ' κ' (.slice (some ⟨h.next, 0, none⟩) (sLen + n) openB)) w' ∧ Step w0 φ κ h φ' κ' (h.new (.cells ⟨cs, i.size, true⟩)) w' ∧ okV (h.new (.cells ⟨cs, i.size, true⟩)).N κ' (.slice (some ⟨h.next, 0, none⟩) (sLen + n) openB) := by
  subst hcs
  obtain ⟨hna, i', hi', hz'⟩ := zeroOf_spec hz
  obtain rfl : i = i' := Option.some.inj (hi.symm.trans hi')
  have hq : ∃ nc, sLen + n ≤ nc ∧ (choose (.appendCap (sLen + n) C el)).run P w = .ok nc { w with drawn := w.drawn + 1 } := by
    refine ⟨_, ?_, by simp only [choose, Sem.run, Question.forced]; rfl⟩
    simp only [Question.cut]
    omega
  obtain ⟨nc, hnc, hq⟩ := hq
  obtain ⟨f1, f2, f3⟩ := aFirst_sound (P := P) (R.drawn (w.drawn + 1)) ho
  obtain ⟨g1, g2, g3⟩ := aFirst_sound (P := P) (R.drawn (w.drawn + 1)) hn
  have hzc : Builtin.zeroCells z.cells (nc - (sLen + n)) = (zlist z ((nc - (sLen + n)) * z.cells.size)).toArray := by
    unfold Builtin.zeroCells
    exact range_map_zlist z _
  have hext : (zlist z ((nc - (sLen + n)) * z.cells.size)).length = (nc - (sLen + n)) * i.size := by simp [zlist, hzs]
  have T := (R.drawn (w.drawn + 1)).newCells (cs := old ++ new) (fun v hv => by
    rcases List.mem_append.1 hv with hv | hv
    · exact f2 v hv
    · exact g2 v hv) i.size true nc (w.drawn + 1) el (zlist z ((nc - (sLen + n)) * z.cells.size)) (fun _ => by
      rw [hext, List.length_append, f3, g3, ← Nat.add_mul, ← Nat.add_mul]
      exact Nat.mul_le_mul_right _ (by omega))
  refine ⟨_, _, _, ?_, ⟨T.agr, T.rel, T.next, T.hid, T.wlim, T.keep⟩, ?_⟩
  · rw [hs] at f1 ⊢
    have hxx : ∃ xb' xc', ren φ κ (.slice xb n xc) = .slice xb' n xc' := by exact ren_sl _ _ _
    obtain ⟨xb', xc', hxx⟩ := hxx
    rw [hxx] at g1 ⊢
    have hlx : (Builtin.lenOf (.slice xb' n xc')).run P w = .ok n w := rfl
    have hfin : (do let newCap ← choose (.appendCap (sLen + n) C el); askRoom (newCap * i.bytes); let old ← Builtin.firstCells i.size sLen (.slice B sLen C); let new ← Builtin.firstCells i.size n (.slice xb' n xc'); let rest := Builtin.zeroCells (← zeroValue el).cells (newCap - (sLen + n)); pure (.slice (some (← newRow el (old ++ new ++ rest))) (sLen + n) newCap) : Sem Value).run P w = .ok (ren (upd φ h.next (w.heap.size, 0)) (upd κ h.next (nc + 1)) (.slice (some ⟨h.next, 0, none⟩) (sLen + n) openB)) { w with heap := w.heap.push (.cells ((old ++ new).map (ren φ κ) ++ zlist z ((nc - (sLen + n)) * z.cells.size)).toArray el (0, 0)), drawn := w.drawn + 1 } := by
      rw [Sem.run_bind, hq]
      simp only [Result.andThen_ok, Sem.run_bind, run_askRoom]
      rw [f1]
      simp only [Result.andThen_ok]
      rw [g1]
      simp only [Result.andThen_ok, run_zeroValue' hi hz', hzc, run_newRow', Sem.run_pure]
      simp [ren, upd_same]
    have hgrow : ¬ (Builtin.nextslicecap (sLen + n) C * i.bytes > 2 ^ 48) := by omega
    have hcap : ¬ (sLen + n ≤ C) := by omega
    clear f1 g1 hq T
    unfold Builtin.append_
    simp only [t0, t1, List.getElem?_toArray, List.getElem?_cons_zero, List.getElem?_cons_succ, Sem.run_bind, run_underlying hu, run_underlying hx, Result.andThen_ok, run_sizeOf' hi, Sem.run_pure]
    cases dx <;> first
      | (simp [isIntD] at hd; done)
      | (simp only [Bool.false_eq_true, if_false, Bool.not_false, if_true, hlx, Result.andThen_ok, run_typeInfo' hi, Sem.run_bind, hcap, false_or]
         rw [if_neg (fun hh => hby hh.2)]
         simp only [Sem.run_bind, run_typeInfo' hi, Result.andThen_ok, hgrow, if_false] at hfin ⊢
         exact hfin)
  · simp only [okV, upd_same]
    exact ⟨new_sees_self R.hid, fun e => absurd e (Nat.succ_ne_zero _), fun _ => by omega⟩

/- in place: into a block that is written -/
theorem append_place {ts : Array TypeId} {ty sT xT el : TypeId} {dx : TypeDesc} {i : TypeInfo} {a : Addr} {sLen n C xc : Nat} {xb : Option Addr} {vs : List Value}
    (t0 : ts[0]? = some sT) (t1 : ts[1]? = some xT) (hu : P.underlying sT = some (.slice el)) (hx : P.underlying xT = some dx) (hi : P.info? el = some i) (hd : isIntD dx = false)
    (hC : sLen + n ≤ C) (g1 : (Builtin.firstCells i.size n (.slice xb n xc)).run P w = .ok vs.toArray w) (hs : (storeCells (a.add (sLen * i.size)) vs).run P w = .ok () w') :
    (Builtin.append_ ts ty #[.slice (some a) sLen C, .slice xb n xc]).run P w = .ok (.slice (some a) (sLen + n) C) w' := by
  have hlx : (Builtin.lenOf (.slice xb n xc)).run P w = .ok n w := rfl
  have hfin : (do let new ← Builtin.firstCells i.size n (.slice xb n xc); storeCells (a.add (sLen * i.size)) new.toList; pure (.slice (some a) (sLen + n) C) : Sem Value).run P w = .ok (.slice (some a) (sLen + n) C) w' := by
    rw [Sem.run_bind, g1]
    simp only [Result.andThen_ok, Sem.run_bind, hs, Sem.run_pure]
  unfold Builtin.append_
  simp only [t0, t1, List.getElem?_toArray, List.getElem?_cons_zero, List.getElem?_cons_succ, Sem.run_bind, run_underlying hu, run_underlying hx, Result.andThen_ok, run_sizeOf' hi, Sem.run_pure]
  cases dx <;> first
    | (simp [isIntD] at hd; done)
    | (simp only [Bool.false_eq_true, if_false, Bool.not_false, if_true, hlx, Result.andThen_ok, Sem.run_bind, hC] at hfin ⊢
       exact hfin)

theorem append_none {ts : Array TypeId} {ty sT xT el : TypeId} {dx : TypeDesc} {i : TypeInfo} {base : Option Addr} {sLen C xc : Nat} {xb : Option Addr}
    (t0 : ts[0]? = some sT) (t1 : ts[1]? = some xT) (hu : P.underlying sT = some (.slice el)) (hx : P.underlying xT = some dx) (hi : P.info? el = some i) (hd : isIntD dx = false)
    (hC : sLen ≤ C) : (Builtin.append_ ts ty #[.slice base sLen C, .slice xb 0 xc]).run P w = .ok (.slice base sLen C) w := by
  have hlx : (Builtin.lenOf (.slice xb 0 xc)).run P w = .ok 0 w := rfl
  have g1 : (Builtin.firstCells i.size 0 (.slice xb 0 xc)).run P w = .ok #[] w := by
    cases xb with
    | none => rfl
    | some b => simp only [Builtin.firstCells, Nat.zero_mul]; rfl
  unfold Builtin.append_
  simp only [t0, t1, List.getElem?_toArray, List.getElem?_cons_zero, List.getElem?_cons_succ, Sem.run_bind, run_underlying hu, run_underlying hx, Result.andThen_ok, run_sizeOf' hi, Sem.run_pure]
  cases dx <;> first
    | (simp [isIntD] at hd; done)
    | (simp only [Bool.false_eq_true, if_false, Bool.not_false, if_true, hlx, Result.andThen_ok, Sem.run_bind, Nat.add_zero, hC, g1]
       cases base <;> simp [storeCells])

theorem Step.ext (S : Step w0 φ κ h φ' κ' h' w') {h2 : AH} (e : ∀ k, h2.tr.get k = h'.tr.get k) (e1 : h2.next = h'.next) (e2 : h2.wlim = h'.wlim) (e3 : h2.hid = h'.hid) : Step w0 φ κ h φ' κ' h2 w' := by
  have hs : ∀ k, h2.sees k = h'.sees k := fun k => by unfold AH.sees; rw [e1, e3]
  have hg : ∀ k, h2.get k = h'.get k := fun k => by unfold AH.get; rw [hs, e]
  have hN : h2.N = h'.N := funext fun k => by unfold AH.N; rw [hs]
  exact ⟨by rw [e1]; exact S.agr, ⟨S.rel.below, by rw [e3, e1]; exact S.rel.hid, by rw [e2, e1]; exact S.rel.wl, fun k o g => by rw [hN]; exact S.rel.ent k o (hg k ▸ g), fun k o g hr hk => S.rel.own k o (hg k ▸ g) hr (e2 ▸ hk), fun k k' o o' g g' hr hr' hk => S.rel.inj k k' o o' (hg k ▸ g) (hg k' ▸ g') hr hr' (by rw [← e2]; exact hk)⟩, by rw [e1]; exact S.next, e3.trans S.hid, e2.trans S.wlim, fun k hk => (e k).trans (S.keep k hk)⟩

theorem ren_open_new (φ : Nat → Nat × Nat) (κ : Nat → Nat) (k n : Nat) : κ k ≠ 0 → ren φ κ (.slice (some ⟨k, 0, none⟩) n openB) = .slice (some ⟨(φ k).1, (φ k).2 + 0, none⟩) n (κ k - 1) := by
  intro hk
  simp only [ren]
  rw [if_neg hk, if_neg (Nat.lt_irrefl _), Nat.sub_self, Nat.sub_zero]

/- a block that no name stands for is written -/
theorem Rel.scribble (R : Rel w0 φ κ h w) {g : Nat} {ob : Obj} (hg : w0.heap.size ≤ g) (hfree : ∀ k o', h.get k = some o' → rl κ k o' → (φ k).1 ≠ g) : Rel w0 φ κ h { w with heap := w.heap.setIfInBounds g ob } :=
  ⟨⟨R.below.os, R.below.tape, R.below.output, by simpa using R.below.size, fun j hj => by
      rw [← R.below.block j hj]
      show (w.heap.setIfInBounds g ob)[j]? = _
      rw [Array.getElem?_setIfInBounds_ne (by omega)]⟩, R.hid, R.wl, fun k o gk => (R.ent k o gk).move (fun _ s => s) (fun _ _ => ⟨rfl, rfl⟩) ⟨rfl, rfl⟩ (fun hr => by
      show (w.heap.setIfInBounds g ob)[(φ k).1]? = _
      rw [Array.getElem?_setIfInBounds_ne (fun e => hfree k o gk hr e.symm)]), R.own, R.inj⟩

theorem aFirst_get {k o n size ln cp : Nat} {b : Blk} {cs : List Value} (g : h.get k = some (.cells b)) (e : aFirst h size n (.slice (some ⟨k, o, none⟩) ln cp) = some cs) : ∀ j v, cs[j]? = some v → b.cells[o + j]? = some v := by
  unfold aFirst at e
  simp only [g] at e
  split at e
  · injection e with e; subst e; intro j v hj; simp at hj
  · split at e
    · injection e with e
      subst e
      intro j v hj
      have hlt := (List.getElem?_eq_some_iff.1 hj).1
      rw [List.getElem?_take, if_pos (by simp at hlt; omega), List.getElem?_drop] at hj
      exact hj
    · cases e

theorem aAppend_sound (R : Rel w0 φ κ h w) {ts : Array TypeId} {ty : TypeId} {s x : Value} {r : Value × AH} (e : aAppend P h ts s x = some r) (os : okV h.N κ s) :
    ∃ φ' κ' w', (Builtin.append_ ts ty #[ren φ κ s, ren φ κ x]).run P w = .ok (ren φ' κ' r.1) w' ∧ Step w0 φ κ h φ' κ' r.2 w' ∧ okV r.2.N κ' r.1 := by
  unfold aAppend at e
  split at e
  · rename_i sT xT t0 t1
    split at e
    · rename_i el dx base sLen sCap xb n xc hu hx
      split at e
      · rename_i i z hi hz
        split at e
        · cases e
        · rename_i hc0
          simp only [Bool.or_eq_true, bne_iff_ne, ne_eq, beq_iff_eq, not_or, Classical.not_not, Bool.not_eq_true] at hc0
          obtain ⟨⟨⟨hd, hzs⟩, hby⟩, hsz⟩ := hc0
          have hxr : ∃ xb' xc', ren φ κ (.slice xb n xc) = .slice xb' n xc' := by exact ren_sl _ _ _
          obtain ⟨xb', xc', hxr⟩ := hxr
          split at e
          · rename_i hn0
            split at e
            · rename_i hor
              injection e with e
              subst e
              subst hn0
              refine ⟨φ, κ, w, ?_, R.step, os⟩
              rw [hxr]
              cases base with
              | none =>
                have hr : ren φ κ (.slice none sLen sCap) = .slice none sLen sCap := by simp [ren]
                rw [hr]
                refine append_none t0 t1 hu hx hi hd ?_
                rcases hor with hor | hor
                · exact hor.2
                · simp at hor
              | some a =>
                rw [ren_slice os]
                refine append_none t0 t1 hu hx hi hd ?_
                simp only [okV] at os
                by_cases hcl : sCap < openB
                · rw [if_pos hcl]; omega
                · rw [if_neg hcl]; have := os.2.2 (by omega); omega
            · cases e
          · rename_i hn0
            split at e
            · rename_i hcl
              split at e
              · rename_i hroom
                split at e
                · rename_i k o
                  split at e
                  · rename_i b new g hf
                    split at e
                    · rename_i hcond
                      obtain ⟨c1, c2, c3, c9⟩ := hcond
                      injection e with e
                      subst e
                      obtain ⟨g1, g2, g3⟩ := aFirst_sound (P := P) R hf
                      have hk0 : κ k ≠ 0 := fun hk => by simp only [okV] at os; have := os.2.1 hk; omega
                      obtain ⟨w', hr, hs⟩ := R.storeCells (P := P) (k := k) (o := o + sLen * i.size) (vs := new) g c1 hk0 c9 (by rw [g3]; exact c2) c3 g2
                      refine ⟨φ, κ, w', ?_, hs, ?_⟩
                      · rw [hxr] at g1 ⊢
                        have h1 : ∀ m, ren φ κ (.slice (some ⟨k, o, none⟩) m sCap) = .slice (some ⟨(φ k).1, (φ k).2 + o, none⟩) m sCap := fun m => by simp [ren, hcl, hk0]
                        rw [h1, h1]
                        refine append_place t0 t1 hu hx hi hd hroom g1 ?_
                        rw [add_none, Nat.add_assoc]
                        exact hr
                      · simp only [okV] at os ⊢
                        exact ⟨os.1, fun e => absurd e hk0, fun e => by omega⟩
                    · cases e
                  · cases e
                · cases e
              · rename_i hroom
                split at e
                · rename_i hbnd
                  unfold aGrow at e
                  split at e
                  · rename_i old new ho hn
                    injection e with e
                    subst e
                    refine aGrow_sound R t0 t1 hu hx hi hz hd hzs old new ho hn rfl (B := match base with | none => none | some a => if κ a.block = 0 then dec (φ a.block).1 else some ⟨(φ a.block).1, (φ a.block).2 + a.off, a.spot⟩) ?_ (by omega) hby hbnd
                    cases base with
                    | none => simp [ren]
                    | some a => rw [ren_slice os, if_pos hcl]
                  · cases e
                · cases e
            · rename_i hcl
              split at e
              · rename_i k o
                split at e
                · rename_i b g
                  split at e
                  · rename_i hcond
                    obtain ⟨c1, c2, c3, c4, c5⟩ := hcond
                    split at e
                    · rename_i old new ho hn
                      split at e
                      · rename_i hone
                        injection e with e
                        subst e
                        obtain ⟨g1, g2, g3⟩ := aFirst_sound (P := P) R hn
                        obtain ⟨_, o2, o3⟩ := aFirst_sound (P := P) R ho
                        have os' := os
                        simp only [okV] at os
                        have osk := os.2.2 (by omega)
                        have hkne : k ≠ h.next := fun e => by have := sees_lt (get_sees g); omega
                        by_cases hroom : sLen + n ≤ κ k - 1 - (sCap - openB)
                        · have hk0 : κ k ≠ 0 := by omega
                          obtain ⟨c, cel, fz, e1, e1z, e0, e2, e3, e4⟩ := (R.ent k _ g).2 hk0
                          obtain rfl := e1z (by rw [c3]; exact hsz)
                          have e4' := e4 c2
                          rw [c3] at e4'
                          have hsum : o + (κ k - 1 - (sCap - openB)) * i.size = (κ k - 1) * i.size := by
                            rw [c4, ← Nat.add_mul]
                            congr 1
                            omega
                          have hfits : sLen * i.size + n * i.size ≤ (κ k - 1 - (sCap - openB)) * i.size := by
                            rw [← Nat.add_mul]
                            exact Nat.mul_le_mul_right _ hroom
                          have hf' : ∀ v ∈ new.map (ren φ κ), v.oneCell' = true := by
                            intro v hv
                            obtain ⟨u, hu', rfl⟩ := List.mem_map.1 hv
                            rw [one_ren]
                            exact List.all_eq_true.1 hone u hu'
                          have hrun := run_storeCells_at P (φ k).1 ((φ k).2 + o + sLen * i.size) cel (new.map (ren φ κ)) 0 c w e1 (by simp; omega) hf'
                          rw [setRow_set e1] at hrun
                          have hlt := (R.ent k _ g).lt hk0
                          have hK := R.kill g c1
                          have hfree : ∀ k' o', (h.put k none).get k' = some o' → rl κ k' o' → (φ k').1 ≠ (φ k).1 := by
                            intro k' o' g' hr' e
                            rw [put_get (get_sees g)] at g'
                            by_cases ek : k' = k
                            · rw [if_pos ek] at g'; cases g'
                            · rw [if_neg ek] at g'; exact ek (R.inj k k' _ _ g g' hk0 hr' c1 e.symm).symm
                          have hS := hK.rel.scribble (g := (φ k).1) (ob := .cells (c.toList.take ((φ k).2 + o + sLen * i.size + 0) ++ new.map (ren φ κ) ++ c.toList.drop ((φ k).2 + o + sLen * i.size + 0 + (new.map (ren φ κ)).length)).toArray cel (0, 0)) (R.own k _ g hk0 c1) hfree
                          have hne : ∀ j, h.sees j = true → j ≠ h.next := fun j s e => by have := sees_lt s; omega
                          have hent : entOK (upd φ h.next ((φ k).1, (φ k).2 + o)) (upd κ h.next (κ k - 1 - (sCap - openB) + 1)) ((h.put k none).new (.cells ⟨old ++ new, i.size, true⟩)).N { w with heap := w.heap.setIfInBounds (φ k).1 (.cells (c.toList.take ((φ k).2 + o + sLen * i.size + 0) ++ new.map (ren φ κ) ++ c.toList.drop ((φ k).2 + o + sLen * i.size + 0 + (new.map (ren φ κ)).length)).toArray cel (0, 0)) } h.next (.cells ⟨old ++ new, i.size, true⟩) := by
                            refine ⟨fun e => absurd e (upd_ne0 _ _ _), fun _ => ⟨(c.toList.take ((φ k).2 + o + sLen * i.size + 0) ++ new.map (ren φ κ) ++ c.toList.drop ((φ k).2 + o + sLen * i.size + 0 + (new.map (ren φ κ)).length)).toArray, cel, _, ?_, fun _ => rfl, ?_, fun j v hj => ?_, fun v hv => ?_, fun _ => ?_⟩⟩
                            · rw [upd_same]
                              exact Array.getElem?_setIfInBounds_self_of_lt hlt
                            · rw [upd_same]
                              simp only [List.size_toArray, List.length_append, List.length_take, List.length_drop, List.length_map, Array.length_toList]
                              omega
                            · rw [upd_same]
                              have hvo : okV h.N κ v := by
                                rcases List.mem_append.1 (List.mem_of_getElem? hj) with hv | hv
                                · exact o2 v hv
                                · exact g2 v hv
                              rw [ren_congr (N := h.N) (fun k s => ⟨upd_ne _ _ (hne k s), upd_ne _ _ (hne k s)⟩) v hvo]
                              simp only [List.getElem?_toArray]
                              have ew := writeAt_get (l := c.toList) (vs := new.map (ren φ κ)) (o := (φ k).2 + o + sLen * i.size) (by simp; omega) ((φ k).2 + o + j)
                              unfold writeAt at ew
                              simp only [Nat.add_zero]
                              rw [ew]
                              have hj' : (old ++ new)[j]? = some v := hj
                              by_cases hjo : j < old.length
                              · rw [List.getElem?_append_left hjo] at hj'
                                rw [if_neg (by simp; omega)]
                                have := e2 _ _ (aFirst_get g ho j v hj')
                                rw [← Nat.add_assoc] at this
                                simpa using this
                              · rw [List.getElem?_append_right (by omega)] at hj'
                                have hjn := (List.getElem?_eq_some_iff.1 hj').1
                                rw [if_pos (by simp; omega), List.getElem?_map, show (φ k).2 + o + j - ((φ k).2 + o + sLen * i.size) = j - old.length from by omega, hj']
                                rfl
                            · have hvo : okV h.N κ v := by
                                rcases List.mem_append.1 hv with hv | hv
                                · exact o2 v hv
                                · exact g2 v hv
                              exact ok_mono (fun _ s => new_sees (h := h.put k none) s) (fun j s => upd_ne _ _ (hne j s)) v hvo
                            · rw [upd_same, upd_same]
                              simp only [List.size_toArray, List.length_append, List.length_take, List.length_drop, List.length_map, Array.length_toList, Nat.add_sub_cancel]
                              omega
                          have T := hS.name (o := .cells ⟨old ++ new, i.size, true⟩) (p := ((φ k).1, (φ k).2 + o)) (K := κ k - 1 - (sCap - openB) + 1) (fun _ => R.own k _ g hk0 c1) (fun _ => hfree) hent
                          have T2 := (hK.trans (Step.trans ⟨fun _ _ => ⟨rfl, rfl⟩, hS, Nat.le_refl _, rfl, rfl, fun _ _ => rfl⟩ T)).ext (h2 := (h.new (.cells ⟨old ++ new, i.size, true⟩)).put k none) (fun j => by
                            rw [put_tr, new_tr, new_tr, put_tr, put_next]
                            simp only [Tr.get_put]
                            by_cases j1 : j = k
                            · rw [if_pos j1, if_neg (by omega), if_pos j1]
                            · rw [if_neg j1, if_neg j1]) (by rw [put_next, new_next, new_next, put_next]) (by rw [put_wlim, new_wlim, new_wlim, put_wlim]) (by rw [put_hid, new_hid, new_hid, put_hid])
                          refine ⟨_, _, _, ?_, T2, ?_⟩
                          · rw [hxr] at g1 ⊢
                            have h1 : ren φ κ (.slice (some ⟨k, o, none⟩) sLen sCap) = .slice (some ⟨(φ k).1, (φ k).2 + o, none⟩) sLen (κ k - 1 - (sCap - openB)) := by simp [ren, hcl, hk0]
                            have h2 : ren (upd φ h.next ((φ k).1, (φ k).2 + o)) (upd κ h.next (κ k - 1 - (sCap - openB) + 1)) (.slice (some ⟨h.next, 0, none⟩) (sLen + n) openB) = .slice (some ⟨(φ k).1, (φ k).2 + o, none⟩) (sLen + n) (κ k - 1 - (sCap - openB)) := by rw [ren_open_new _ _ _ _ (upd_ne0 _ _ _), upd_same, upd_same, Nat.add_sub_cancel, Nat.add_zero]
                            rw [h1]
                            rw [show (h.put k none).next = h.next from rfl]
                            dsimp only
                            rw [h2]
                            refine append_place t0 t1 hu hx hi hd hroom g1 (by rw [add_none]; exact hrun)
                          · dsimp only
                            rw [put_N]
                            simp only [okV]
                            refine ⟨new_sees_self (h := h) (o := .cells ⟨old ++ new, i.size, true⟩) R.hid, fun e => absurd e (upd_ne0 _ _ _), fun _ => ?_⟩
                            show openB - openB + (sLen + n) ≤ upd κ h.next (κ k - 1 - (sCap - openB) + 1) h.next - 1
                            rw [upd_same]
                            omega
                        · have hbnd : Builtin.nextslicecap (sLen + n) (κ k - 1 - (sCap - openB)) * i.bytes ≤ 281474976710656 := Nat.le_trans (Nat.mul_le_mul_right _ (nextcap_le (by omega))) c5
                          obtain ⟨φ', κ', w', q1, q2, q3⟩ := aGrow_sound R (ty := ty) t0 t1 hu hx hi hz hd hzs old new ho hn rfl (C := κ k - 1 - (sCap - openB)) (B := if κ k = 0 then dec (φ k).1 else some ⟨(φ k).1, (φ k).2 + o, none⟩) (by rw [ren_slice os', if_neg hcl]) (by omega) hby hbnd
                          have gk : (h.new (.cells ⟨old ++ new, i.size, true⟩)).get k = some (.cells b) := by rw [new_get R.hid, if_neg hkne]; exact g
                          have hN := put_N (h.new (.cells ⟨old ++ new, i.size, true⟩)) k none
                          refine ⟨φ', κ', w', q1, q2.trans (q2.rel.kill gk c1), ?_⟩
                          rw [hN]
                          exact q3
                      · cases e
                    · cases e
                  · cases e
                · cases e
              · cases e
      · cases e
    · cases e
  · cases e

def aCopy (P : Program) (h : AH) (ts : Array TypeId) (d x : Value) : Option (Value × AH) :=
  match ts[0]? with
  | some dT =>
    match P.underlying dT, d, x with
    | some (.slice el), .slice (some ⟨k, o, none⟩) dl _, .slice _ sl _ =>
      match P.info? el, h.get k with
      | some i, some (.cells b) =>
        match aFirst h i.size (Nat.min sl dl) x with
        | some cs => if h.wlim ≤ k ∧ o + cs.length ≤ b.cells.length ∧ cs.all Value.oneCell' = true ∧ b.esz ≠ 0 then some (.int .i64 (Nat.min sl dl), if cs.isEmpty then h else h.put k (some (.cells { b with cells := writeAt b.cells o cs }))) else none
        | none => none
      | _, _ => none
    | _, _, _ => none
  | none => none
theorem aCopy_sound (R : Rel w0 φ κ h w) {ts : Array TypeId} {ty : TypeId} {d x : Value} {r : Value × AH} (e : aCopy P h ts d x = some r) (od : okV h.N κ d) :
    ∃ φ' κ' w', (Builtin.copy_ ts ty #[ren φ κ d, ren φ κ x]).run P w = .ok (ren φ' κ' r.1) w' ∧ Step w0 φ κ h φ' κ' r.2 w' ∧ okV r.2.N κ' r.1 := by
  unfold aCopy at e
  split at e
  · rename_i dT t0
    split at e
    · rename_i el k o dl dc sb sl sc hu
      split at e
      · rename_i i b hi g
        split at e
        · rename_i cs hf
          split at e
          · rename_i hc
            obtain ⟨c1, c2, c3, c9⟩ := hc
            injection e with e
            subst e
            obtain ⟨g1, g2, g3⟩ := aFirst_sound (P := P) R hf
            have hdr := ren_slice (φ := φ) od
            simp only [okV] at od
            have hstore : ∃ w', (match (if κ k = 0 then dec (φ k).1 else some ⟨(φ k).1, (φ k).2 + o, none⟩ : Option Addr) with | some a => (do storeCells a (cs.map (ren φ κ)) 0; pure (goInt ↑(sl.min dl))) | x => pure (goInt ↑(sl.min dl)) : Sem Value).run P w = .ok (goInt ↑(sl.min dl)) w' ∧ Step w0 φ κ h φ κ (if cs.isEmpty then h else h.put k (some (.cells { b with cells := writeAt b.cells o cs }))) w' := by
              by_cases hcs : cs = []
              · subst hcs
                refine ⟨w, ?_, R.step⟩
                by_cases hk : κ k = 0
                · rw [if_pos hk]; cases dec (φ k).1 <;> simp [storeCells]
                · simp [hk, storeCells]
              · have hk : κ k ≠ 0 := fun hk => by
                  have hdl := (od.2.1 hk).1
                  subst hdl
                  apply hcs
                  apply List.eq_nil_of_length_eq_zero
                  rw [g3]
                  simp
                have hce : cs.isEmpty = false := by cases cs with | nil => exact absurd rfl hcs | cons => rfl
                rw [hce, if_neg hk]
                obtain ⟨w', hr, hs⟩ := R.storeCells (P := P) (k := k) (o := o) (vs := cs) g c1 hk c9 c2 c3 g2
                exact ⟨w', by simp only [Sem.run_bind, hr, Result.andThen_ok, Sem.run_pure], hs⟩
            obtain ⟨w', hr, hs⟩ := hstore
            refine ⟨φ, κ, w', ?_, hs, by simp [okV]⟩
            rw [hdr]
            have hxr : ∃ xb' xc', ren φ κ (.slice sb sl sc) = .slice xb' sl xc' := ren_sl _ _ _
            obtain ⟨xb', xc', hxr⟩ := hxr
            rw [hxr] at g1 ⊢
            have hlx : (Builtin.lenOf (.slice xb' sl xc')).run P w = .ok sl w := rfl
            unfold Builtin.copy_
            simp only [t0, List.getElem?_toArray, List.getElem?_cons_zero, List.getElem?_cons_succ, Sem.run_bind, run_underlying hu, Result.andThen_ok, run_sizeOf' hi, hlx, g1, Sem.run_pure] at hr ⊢
            exact hr
          · cases e
        · cases e
      · cases e
    · cases e
  · cases e
end
end Go.Vm

/- VmH: A machine for closed runs, eighth part: one operation. -/
namespace Go.Vm
open Go Go.RowKit

abbrev Env := Operand → Option Value

/- is a slice nil: what is known -/
def isNil (a : Option Addr) (n c : Nat) : Option Bool :=
  match a with
  | none => some true
  | some _ => if n ≠ 0 ∨ (c < openB ∧ c ≠ 0) then some false else none

def aEq (P : Program) (t : TypeId) (x y : Value) : Option Bool :=
  match P.underlying t, x, y with
  | some (.pointer _), .pointer none, .pointer b => some b.isNone
  | some (.pointer _), .pointer (some _), .pointer none => some false
  | some (.slice _), .slice none _ _, .slice b n c => isNil b n c
  | some (.slice _), .slice (some a) n c, .slice none _ _ => isNil (some a) n c
  | some (.map _ _), .map none, .map b => some b.isNone
  | some (.map _ _), .map (some _), .map none => some false
  | some (.func _ _ _), .nilFunc, .nilFunc => some true
  | some (.func _ _ _), .nilFunc, .func _ _ _ => some false
  | some (.func _ _ _), .func _ _ _, .nilFunc => some false
  | _, _, _ => none

def aArgs (ρ : Env) : List Operand → Option (List Value)
  | [] => some []
  | x :: r => match ρ x, aArgs ρ r with
    | some v, some l => some (v :: l)
    | _, _ => none
def aParts (ρ : Env) : List (Nat × Operand) → Option (List (Nat × Value))
  | [] => some []
  | (i, x) :: r => match ρ x, aParts ρ r with
    | some v, some l => some ((i, v) :: l)
    | _, _ => none
def aOptV (ρ : Env) : Option Operand → Option (Option Value)
  | none => some none
  | some x => match ρ x with
    | some v => some (some v)
    | none => none

/- maps: keys that are structs of plain numbers, or pointers -/
def isKeyD : TypeDesc → Bool
  | .struct _ | .pointer _ => true
  | _ => false
def keyEq (P : Program) (t : TypeId) (a b : Value) : Option Bool :=
  if noAddr a && noAddr b then pureRun P (Op.equal t a b)
  else match P.underlying t, a, b with
    | some (.pointer el), .pointer (some x), .pointer (some y) => match P.info? el with
      | some f => if f.size ≠ 0 ∧ x = y then some true else none
      | none => none
    | _, _, _ => none
def aFind (P : Program) (t : TypeId) (k : Value) : List MapEntry → Nat → Option (Option (Nat × Value))
  | [], _ => some none
  | e :: es, i => match keyEq P t k e.key with
    | some true => some (some (i, e.val))
    | some false => aFind P t k es (i + 1)
    | none => none
def keySame (a b : Value) : Bool := (noAddr a && noAddr b && Instr.sameBits 10000 a b) || match a, b with
  | .pointer (some x), .pointer (some y) => decide (x = y)
  | _, _ => false
def checkOK (P : Program) (e : Bool) (t : TypeId) (k : Value) : Bool := match P.underlying t with
  | some (.pointer _) => true
  | some (.struct _) => noAddr k && (pureRun P (Instr.checkKey e 10000 t k)).isSome
  | _ => false
def mapOf (h : AH) : Value → Option (List MapEntry × Nat)
  | .map none => some ([], 0)
  | .map (some r) => match h.get r with
    | some (.map es c) => some (es, c)
    | _ => none
  | _ => none
def aLookup (P : Program) (h : AH) (t : TypeId) (x k : Value) (ok : Bool) : Option Value :=
  match P.underlying t with
  | some (.map kt el) => match P.underlying kt, mapOf h x, zeroOf P el with
    | some d, some (es, _), some z => if isKeyD d && checkOK P es.isEmpty kt k then match aFind P kt k es 0 with
        | some (some (_, v)) => some (if ok then .tuple ⟨[v, .bool true]⟩ else v)
        | some none => some (if ok then .tuple ⟨[z, .bool false]⟩ else z)
        | none => none
      else none
    | _, _, _ => none
  | _ => none
def aMapUpdate (P : Program) (h : AH) (t : TypeId) (m k x : Value) : Option AH :=
  match P.underlying t, m with
  | some (.map kt _), .map (some r) => match P.underlying kt, h.get r with
    | some d, some (.map es c) => if isKeyD d && checkOK P false kt k && decide (h.wlim ≤ r) then match aFind P kt k es 0 with
        | some (some (i, _)) => match es[i]? with
          | some e => if keySame e.key k then some (h.put r (some (.map (es.set i ⟨k, x, e.born⟩) c))) else none
          | none => none
        | some none => some (h.put r (some (.map (es ++ [⟨k, x, c⟩]) (c + 1))))
        | none => none
      else none
    | _, _ => none
  | _, _ => none
def aMakeMap (P : Program) (h : AH) (t : TypeId) (r : Option Value) : Option (Value × AH) :=
  match P.underlying t, r with
  | some (.map _ _), none | some (.map _ _), some (.int _ _) => some (.map (some h.next), h.new (.map [] 0))
  | _, _ => none
def aRange (P : Program) (h : AH) (t : TypeId) (x : Value) : Option (Value × AH) :=
  match P.underlying t, x with
  | some (.map _ _), .map (some m) => match h.get m with
    | some (.map _ c) => some (pt h.next, h.new (.iter m c #[] c))
    | _ => none
  | _, _ => none
def leftOf (es : List MapEntry) (since : Nat) (seen : Array Nat) : List MapEntry × List MapEntry :=
  let left := es.filter fun e => !seen.contains e.born
  (left.filter (fun e => decide (e.born < since)), left.filter (fun e => decide (e.born ≥ since)))
def aNext (h : AH) (it : Value) (str : Bool) : Option (Value × AH) :=
  match it, str with
  | .pointer (some ⟨r, 0, none⟩), false => match h.get r with
    | some (.iter m since seen last) => match h.get m with
      | some (.map es c) =>
        if !seen.isEmpty && !es.isEmpty && es.all (fun e => decide (e.born ≥ last)) then none else
        match leftOf es since seen with
        | ([], []) => some (.tuple ⟨[.bool false]⟩, h)
        | ([e], []) => if h.wlim ≤ r then some (.tuple ⟨[.bool true, e.key, e.val]⟩, h.put r (some (.iter m since (seen.push e.born) c))) else none
        | _ => none
      | _ => none
    | _ => none
  | _, _ => none

def aEntry (h : AH) (it : Value) : Option Value :=
  match it with
  | .pointer (some ⟨r, 0, none⟩) => match h.get r with
    | some (.iter m _ seen last) => match seen.back?, h.get m with
      | some st, some (.map es c) => if c = last then match es.find? (fun e => e.born == st) with
          | some e => some (.tuple ⟨[e.key, e.val]⟩)
          | none => none
        else none
      | _, _ => none
    | _ => none
  | _ => none

section
variable {P : Program} {w0 w w' : World} {φ φ' : Nat → Nat × Nat} {κ κ' : Nat → Nat} {h h' : AH}

theorem keyEq_sound {N : Nat → Prop} {t : TypeId} {a b : Value} {r : Bool} (e : keyEq P t a b = some r) (oa : okV N κ a) (w : World) : (Op.equal t (ren φ κ a) (ren φ κ b)).run P w = .ok r w := by
  unfold keyEq at e
  split at e
  · rename_i hn
    rw [Bool.and_eq_true] at hn
    rw [ren_noAddr _ _ _ hn.1, ren_noAddr _ _ _ hn.2]
    exact pureRun_run e
  · rename_i hnn
    split at e
    · rename_i el x y hu
      split at e
      · rename_i f hf
        split at e
        · rename_i hc
          injection e with e
          subst e
          obtain ⟨hz, rfl⟩ := hc
          simp only [ren]
          show (Op.equalIn (9999 + 1) t _ _).run P w = _
          unfold Op.equalIn
          rw [Sem.run_bind, run_underlying hu]
          simp only [okV] at oa
          simp [Sem.run_bind, run_sizeOf' hf, hz, sameAddr]
        · cases e
      · cases e
    · cases e
theorem aFind_sound {N : Nat → Prop} {t : TypeId} {k : Value} (ok : okV N κ k) (w : World) : ∀ (es : List MapEntry) (i : Nat) {r : Option (Nat × Value)}, aFind P t k es i = some r → (Instr.findAsking t (ren φ κ k) (es.map (renE φ κ)) i).run P w = .ok (r.map fun p => (p.1, ren φ κ p.2)) w
  | [], i, r, e => by
    simp only [aFind, Option.some.injEq] at e
    subst e
    rfl
  | x :: es, i, r, e => by
    unfold aFind at e
    split at e
    · rename_i hk
      injection e with e
      subst e
      have := keyEq_sound (φ := φ) hk ok w
      simp only [List.map_cons, Instr.findAsking, renE, Sem.run_bind, this]
      rfl
    · rename_i hk
      have h1 := keyEq_sound (φ := φ) hk ok w
      have h2 := aFind_sound ok w es (i + 1) e
      simp only [List.map_cons, Instr.findAsking, renE, Sem.run_bind, h1]
      exact h2
    · cases e
theorem findKey_sound {N : Nat → Prop} {t : TypeId} {k : Value} {d : TypeDesc} (hu : P.underlying t = some d) (hd : isKeyD d = true) (ok : okV N κ k) (w : World) {es : List MapEntry} {r : Option (Nat × Value)} (e : aFind P t k es 0 = some r) : (Instr.findKey t (ren φ κ k) (es.map (renE φ κ))).run P w = .ok (r.map fun p => (p.1, ren φ κ p.2)) w := by
  have h1 := aFind_sound (P := P) (φ := φ) ok w es 0 e
  unfold Instr.findKey
  rw [Sem.run_bind, run_underlying hu]
  cases es with
  | nil =>
    simp only [aFind, Option.some.injEq] at e
    subst e
    rfl
  | cons x es =>
    have : Instr.findNow d (ren φ κ k) ((x :: es).map (renE φ κ)) 0 = none := by
      simp only [List.map_cons, Instr.findNow]
      cases d <;> first | (cases hd; done) | rfl
    simp only [Result.andThen_ok, this]
    exact h1
theorem checkOK_sound {b : Bool} {t : TypeId} {k : Value} (e : checkOK P b t k = true) (w : World) : (Instr.checkKey b 10000 t (ren φ κ k)).run P w = .ok () w := by
  unfold checkOK at e
  split at e
  · rename_i el hu
    show (Instr.checkKey b (9999 + 1) t _).run P w = _
    unfold Instr.checkKey
    rw [Sem.run_bind, run_underlying hu]
    rfl
  · rename_i fs hu
    rw [Bool.and_eq_true] at e
    rw [ren_noAddr _ _ _ e.1]
    obtain ⟨u, hu2⟩ := Option.isSome_iff_exists.1 e.2
    exact pureRun_run hu2
  · cases e
theorem keySame_sound {a b : Value} (e : keySame a b = true) (w : World) : (Instr.keyThatStays (ren φ κ a) (ren φ κ b)).run P w = .ok (ren φ κ b) w := by
  have : Instr.sameBits 10000 (ren φ κ a) (ren φ κ b) = true := by
    unfold keySame at e
    rw [Bool.or_eq_true] at e
    rcases e with e | e
    · simp only [Bool.and_eq_true] at e
      rw [ren_noAddr _ _ _ e.1.1, ren_noAddr _ _ _ e.1.2]
      exact e.2
    · split at e
      · rename_i x y
        rw [decide_eq_true_eq] at e
        subst e
        simp [ren, Instr.sameBits]
      · cases e
  unfold Instr.keyThatStays
  rw [if_pos this]
  rfl
theorem mapOf_sound (R : Rel w0 φ κ h w) {x : Value} {es : List MapEntry} {c : Nat} (e : mapOf h x = some (es, c)) :
    (x = .map none ∧ es = []) ∨ ∃ r, x = .map (some r) ∧ w.heap[(φ r).1]? = some (.map (es.map (renE φ κ)).toArray c) ∧ ∀ e ∈ es, okV h.N κ e.key ∧ okV h.N κ e.val := by
  unfold mapOf at e
  split at e
  · simp only [Option.some.injEq, Prod.mk.injEq] at e
    exact .inl ⟨rfl, e.1.symm⟩
  · rename_i r
    split at e
    · rename_i es' c' g
      simp only [Option.some.injEq, Prod.mk.injEq] at e
      obtain ⟨rfl, rfl⟩ := e
      obtain ⟨_, h2, h3⟩ := R.ent r _ g
      exact .inr ⟨r, rfl, h2, h3⟩
    · cases e
  · cases e
theorem aFind_mem {t : TypeId} {k : Value} : ∀ {es : List MapEntry} {i j : Nat} {v : Value}, aFind P t k es i = some (some (j, v)) → ∃ e ∈ es, e.val = v
  | [], i, j, v, e => by simp [aFind] at e
  | x :: es, i, j, v, e => by
    unfold aFind at e
    split at e
    · simp only [Option.some.injEq, Prod.mk.injEq] at e
      exact ⟨x, by simp, e.2⟩
    · obtain ⟨y, hy, hv⟩ := aFind_mem e
      exact ⟨y, by simp [hy], hv⟩
    · cases e
theorem aLookup_sound (R : Rel w0 φ κ h w) {t : TypeId} {x k v : Value} {ok : Bool} (e : aLookup P h t x k ok = some v) (okk : okV h.N κ k) :
    (Instr.lookup t (ren φ κ x) (ren φ κ k) ok).run P w = .ok (ren φ κ v) w ∧ okV h.N κ v := by
  unfold aLookup at e
  split at e
  · rename_i kt el hu
    split at e
    · rename_i d es c z hd hm hz
      split at e
      · rename_i hc
        rw [Bool.and_eq_true] at hc
        obtain ⟨hzn, iz, hzi, hzz⟩ := zeroOf_spec hz
        have hck := checkOK_sound (φ := φ) (κ := κ) hc.2 w
        have run1 : ∀ r : Option (Nat × Value), aFind P kt k es 0 = some r → (Instr.lookup t (ren φ κ x) (ren φ κ k) ok).run P w = .ok (match r with
            | some p => if ok = true then .tuple ⟨[ren φ κ p.2, .bool true]⟩ else ren φ κ p.2
            | none => if ok = true then .tuple ⟨[z, .bool false]⟩ else z) w := fun r hr => by
          have hf := findKey_sound (φ := φ) hd hc.1 okk w hr
          unfold Instr.lookup
          rw [Sem.run_bind, run_underlying hu]
          rcases mapOf_sound R hm with ⟨rfl, rfl⟩ | ⟨q, rfl, hw, _⟩
          · simp only [List.isEmpty_nil] at hck
            simp only [List.map_nil] at hf
            simp only [ren, Result.andThen_ok, Sem.run_bind, Sem.run_pure, Array.isEmpty_empty, hck, hf]
            cases r with
            | none => simp only [Option.map_none, Sem.run_bind, run_zeroValue' hzi hzz, Result.andThen_ok, Sem.run_pure]
            | some p => simp only [Option.map_some, Sem.run_bind, Result.andThen_ok, Sem.run_pure]
          · have he : (es.map (renE φ κ)).toArray.isEmpty = es.isEmpty := by cases es <;> rfl
            simp only [ren, Result.andThen_ok, Sem.run_bind, Sem.run_pure, getObj, Sem.run, hw, he, hck, hf]
            cases r with
            | none => simp only [Option.map_none, Sem.run_bind, run_zeroValue' hzi hzz, Result.andThen_ok, Sem.run_pure]
            | some p => simp only [Option.map_some, Sem.run_bind, Result.andThen_ok, Sem.run_pure]
        split at e
        · rename_i i v' hf
          injection e with e
          subst e
          obtain ⟨en, hen, hv⟩ := aFind_mem hf
          have hvo : okV h.N κ v' := by
            rcases mapOf_sound R hm with ⟨_, rfl⟩ | ⟨r, _, _, ho⟩
            · cases hen
            · rw [← hv]
              exact (ho en hen).2
          rw [run1 _ hf]
          cases ok with
          | true => exact ⟨rfl, ⟨hvo, trivial, trivial⟩⟩
          | false => exact ⟨rfl, hvo⟩
        · rename_i hf
          injection e with e
          subst e
          rw [run1 _ hf]
          cases ok with
          | true => exact ⟨by simp [ren, renA, renL, ren_noAddr _ _ _ hzn], ⟨ok_noAddr _ _ _ hzn, trivial, trivial⟩⟩
          | false => exact ⟨by simp [ren_noAddr _ _ _ hzn], ok_noAddr _ _ _ hzn⟩
        · cases e
      · cases e
    · cases e
  · cases e
theorem aMapUpdate_sound (R : Rel w0 φ κ h w) {t : TypeId} {m k x : Value} (e : aMapUpdate P h t m k x = some h') (okk : okV h.N κ k) (okx : okV h.N κ x) :
    ∃ w', (Instr.mapUpdate t (ren φ κ m) (ren φ κ k) (ren φ κ x)).run P w = .ok () w' ∧ Step w0 φ κ h φ κ h' w' := by
  unfold aMapUpdate at e
  split at e
  · rename_i kt el r hu
    split at e
    · rename_i d es c hd g
      split at e
      · rename_i hc
        simp only [Bool.and_eq_true, decide_eq_true_eq] at hc
        obtain ⟨⟨hc1, hc2⟩, hwl⟩ := hc
        obtain ⟨g0, gw, go⟩ := R.ent r _ g
        have hck := checkOK_sound (φ := φ) (κ := κ) hc2 w
        have hlt : (φ r).1 < w.heap.size := (Array.getElem?_eq_some_iff.1 gw).1
        have fin : ∀ (es' : List MapEntry) (c' : Nat), (∀ e ∈ es', okV h.N κ e.key ∧ okV h.N κ e.val) → Step w0 φ κ h φ κ (h.put r (some (.map es' c'))) { w with heap := w.heap.setIfInBounds (φ r).1 (.map (es'.map (renE φ κ)).toArray c') } := fun es' c' ho =>
          R.write (o' := .map es' c') (ob := .map (es'.map (renE φ κ)).toArray c') g hwl trivial ⟨g0, Array.getElem?_setIfInBounds_self_of_lt hlt, ho⟩
        split at e
        · rename_i i v hf
          have hfk := findKey_sound (φ := φ) hd hc1 okk w hf
          split at e
          · rename_i en hen
            split at e
            · rename_i hks
              injection e with e
              subst e
              have hkt := keySame_sound (P := P) (φ := φ) (κ := κ) hks w
              refine ⟨_, ?_, fin _ _ fun y hy => ?_⟩
              · unfold Instr.mapUpdate
                have hget : ((es.map (renE φ κ)).toArray[i]?) = some (renE φ κ en) := by simp [hen]
                have hmod : (es.map (renE φ κ)).toArray.modify i (fun e => { e with key := ren φ κ k, val := ren φ κ x }) = ((es.set i ⟨k, x, en.born⟩).map (renE φ κ)).toArray := by
                  have hi : i < es.length := (List.getElem?_eq_some_iff.1 hen).1
                  apply Array.ext'
                  rw [Array.toList_modify]
                  apply List.ext_getElem?
                  intro j
                  rw [List.getElem?_modify, List.getElem?_map, List.getElem?_map, List.getElem?_set]
                  by_cases hij : i = j
                  · subst hij
                    have hee : es[i] = en := (List.getElem?_eq_some_iff.1 hen).2
                    simp [hi, renE, hee]
                  · simp [hij]
                simp only [Sem.run_bind, run_underlying hu, Result.andThen_ok, ren, getObj, Sem.run, gw, hck, hfk, Option.map_some, hget, Option.getD_some, renE, hkt, setObj, hmod]
              · rcases List.mem_or_eq_of_mem_set hy with hy | rfl
                · exact go y hy
                · exact ⟨okk, okx⟩
            · cases e
          · cases e
        · rename_i hf
          have hfk := findKey_sound (φ := φ) hd hc1 okk w hf
          injection e with e
          subst e
          refine ⟨_, ?_, fin _ _ fun y hy => ?_⟩
          · unfold Instr.mapUpdate
            have hpush : (es.map (renE φ κ)).toArray.push (⟨ren φ κ k, ren φ κ x, c⟩ : MapEntry) = ((es ++ [(⟨k, x, c⟩ : MapEntry)]).map (renE φ κ)).toArray := by simp [renE]
            simp only [Sem.run_bind, run_underlying hu, Result.andThen_ok, ren, getObj, Sem.run, gw, hck, hfk, Option.map_none, setObj, hpush]
          · rcases List.mem_append.1 hy with hy | hy
            · exact go y hy
            · simp only [List.mem_singleton] at hy
              subst hy
              exact ⟨okk, okx⟩
        · cases e
      · cases e
    · cases e
  · cases e
theorem aMakeMap_sound (R : Rel w0 φ κ h w) {t : TypeId} {r : Option Value} {res : Value × AH} (e : aMakeMap P h t r = some res) :
    ∃ φ' κ' w', (Instr.makeMap t (r.map (ren φ κ))).run P w = .ok (ren φ' κ' res.1) w' ∧ Step w0 φ κ h φ' κ' res.2 w' ∧ okV res.2.N κ' res.1 := by
  have hent : entOK (upd φ h.next (w.heap.size, 0)) (upd κ h.next 0) (h.new (.map [] 0)).N { w with heap := w.heap.push (.map #[] 0), drawn := w.drawn } h.next (.map [] 0) := by
    refine ⟨by rw [upd_same], ?_, fun e he => by cases he⟩
    rw [upd_same]
    simp
  have S := R.push (o := .map [] 0) (ob := .map #[] 0) (p := (w.heap.size, 0)) (K := 0) (d := w.drawn) rfl hent
  have hv : ren (upd φ h.next (w.heap.size, 0)) (upd κ h.next 0) (.map (some h.next)) = .map (some w.heap.size) := by simp only [ren, upd_same]
  have ho : okV (h.new (.map [] 0)).N (upd κ h.next 0) (.map (some h.next)) := new_sees_self R.hid
  unfold aMakeMap at e
  split at e
  · injection e with e
    subst e
    exact ⟨_, _, _, by rw [hv]; rfl, S, ho⟩
  · rename_i kt el kd n hu
    injection e with e
    subst e
    refine ⟨_, _, _, ?_, S, ho⟩
    rw [hv]
    unfold Instr.makeMap
    simp only [Option.map_some, ren, Sem.run_bind, run_underlying hu, Result.andThen_ok, asInt]
    rfl
  · cases e
theorem aRange_sound (R : Rel w0 φ κ h w) {t : TypeId} {x : Value} {res : Value × AH} (e : aRange P h t x = some res) :
    ∃ φ' κ' w', (Instr.range t (ren φ κ x)).run P w = .ok (ren φ' κ' res.1) w' ∧ Step w0 φ κ h φ' κ' res.2 w' ∧ okV res.2.N κ' res.1 := by
  unfold aRange at e
  split at e
  · rename_i kt el m hu
    split at e
    · rename_i es c g
      injection e with e
      subst e
      obtain ⟨g0, gw, go⟩ := R.ent m _ g
      have hm : m ≠ h.next := fun e => by have := sees_lt (get_sees g); omega
      have hent : entOK (upd φ h.next (w.heap.size, 0)) (upd κ h.next 1) (h.new (.iter m c #[] c)).N { w with heap := w.heap.push (.mapIter (some (φ m).1) c #[] c), drawn := w.drawn } h.next (.iter m c #[] c) := by
        refine ⟨by rw [upd_same], ?_, new_sees (get_sees g)⟩
        rw [upd_same, upd_ne _ _ hm]
        simp
      have S := R.push (o := .iter m c #[] c) (ob := .mapIter (some (φ m).1) c #[] c) (p := (w.heap.size, 0)) (K := 1) (d := w.drawn) rfl hent
      refine ⟨_, _, _, ?_, S, ?_⟩
      · unfold Instr.range
        simp only [ren, pt, Sem.run_bind, run_underlying hu, Result.andThen_ok, getObj, Sem.run, gw, newObj, upd_same]
        rfl
      · exact ⟨new_sees_self R.hid, by simp [upd_same, pt]⟩
    · cases e
  · cases e
theorem arr_filter (p : Nat → Bool) (l : List MapEntry) : ((l.map (renE φ κ)).toArray.filter fun e => p e.born) = ((l.filter fun e => p e.born).map (renE φ κ)).toArray := by
  rw [List.filter_toArray]
  congr 1
  rw [List.filter_map]
  rfl
theorem arr_all (p : Nat → Bool) (l : List MapEntry) : ((l.map (renE φ κ)).toArray.all fun e => p e.born) = l.all fun e => p e.born := by
  simp
  rfl
theorem leftOf_ren (es : List MapEntry) (since : Nat) (seen : Array Nat) : (((es.map (renE φ κ)).toArray.filter fun e => !seen.contains e.born).filter fun e => decide (e.born < since)) = ((leftOf es since seen).1.map (renE φ κ)).toArray ∧ (((es.map (renE φ κ)).toArray.filter fun e => !seen.contains e.born).filter fun e => decide (e.born ≥ since)) = ((leftOf es since seen).2.map (renE φ κ)).toArray := by
  rw [arr_filter (fun b => !seen.contains b)]
  exact ⟨arr_filter (fun b => decide (b < since)) _, arr_filter (fun b => decide (b ≥ since)) _⟩
theorem leftOf_mem {es : List MapEntry} {since : Nat} {seen : Array Nat} {e : MapEntry} (h : e ∈ (leftOf es since seen).1) : e ∈ es :=
  (List.mem_filter.1 (List.mem_filter.1 h).1).1
theorem aEntry_sound (R : Rel w0 φ κ h w) {it v : Value} (e : aEntry h it = some v) :
    (Instr.entry (ren φ κ it)).run P w = .ok (ren φ κ v) w ∧ okV h.N κ v := by
  unfold aEntry at e
  split at e
  · rename_i r
    split at e
    · rename_i m since seen last g
      split at e
      · rename_i st es c hst gm
        split at e
        · rename_i hc
          split at e
          · rename_i en hen
            injection e with e
            subst e hc
            obtain ⟨g0, gw, _⟩ := R.ent r _ g
            obtain ⟨m0, mw, mo⟩ := R.ent m _ gm
            have hit : ren φ κ (.pointer (some ⟨r, 0, none⟩)) = .pointer (some ⟨(φ r).1, 0, none⟩) := by
              simp only [ren, g0]
            have hf : (es.map (renE φ κ)).toArray.find? (fun e => e.born == st) = some (renE φ κ en) := by
              rw [List.find?_toArray, List.find?_map]
              show Option.map _ (es.find? fun e => e.born == st) = _
              rw [hen]
              rfl
            have hmem := mo en (List.mem_of_find?_eq_some hen)
            refine ⟨?_, ⟨hmem.1, hmem.2, trivial⟩⟩
            rw [hit]
            unfold Instr.entry
            simp only [Sem.run_bind, getObj, Sem.run, gw, Result.andThen_ok, hst, mw, bne_self_eq_false, Bool.false_eq_true, if_false, hf]
            rfl
          · cases e
        · cases e
      · cases e
    · cases e
  · cases e
theorem aNext_sound (R : Rel w0 φ κ h w) {it : Value} {str : Bool} {ty : TypeId} {res : Value × AH} (e : aNext h it str = some res) :
    ∃ w', (Instr.next (ren φ κ it) str ty).run P w = .ok (ren φ κ res.1) w' ∧ Step w0 φ κ h φ κ res.2 w' ∧ okV res.2.N κ res.1 := by
  unfold aNext at e
  split at e
  · rename_i r
    split at e
    · rename_i m since seen last g
      split at e
      · rename_i es c gm
        split at e
        · cases e
        · rename_i hcond
          obtain ⟨g0, gw, _⟩ := R.ent r _ g
          obtain ⟨m0, mw, mo⟩ := R.ent m _ gm
          obtain ⟨l1, l2⟩ := leftOf_ren (φ := φ) (κ := κ) es since seen
          have hcond2 : (!seen.isEmpty && !(es.map (renE φ κ)).toArray.isEmpty && (es.map (renE φ κ)).toArray.all fun e => decide (e.born ≥ last)) = false := by
            have he : (es.map (renE φ κ)).toArray.isEmpty = es.isEmpty := by cases es <;> rfl
            rw [he, arr_all (fun b => decide (b ≥ last))]
            simpa using hcond
          have hlt : (φ r).1 < w.heap.size := (Array.getElem?_eq_some_iff.1 gw).1
          have hit : ren φ κ (.pointer (some ⟨r, 0, none⟩)) = .pointer (some ⟨(φ r).1, 0, none⟩) := by
            simp only [ren, g0]
          split at e
          · rename_i hlf
            injection e with e
            subst e
            rw [hlf] at l1 l2
            refine ⟨w, ?_, R.step, ⟨trivial, trivial⟩⟩
            rw [hit]
            unfold Instr.next
            simp only [Sem.run_bind, getObj, Sem.run, gw, Result.andThen_ok, mw, hcond2, Bool.false_eq_true, if_false, l1, l2]
            simp [choose, Sem.run, Question.forced, ren, renA, renL]
          · rename_i en hlf
            split at e
            · rename_i hwl
              injection e with e
              subst e
              have hmem : en ∈ es := leftOf_mem (since := since) (seen := seen) (by rw [hlf]; simp)
              rw [hlf] at l1 l2
              have S := R.write (o' := .iter m since (seen.push en.born) c) (ob := .mapIter (some (φ m).1) since (seen.push en.born) c) g hwl trivial ⟨g0, Array.getElem?_setIfInBounds_self_of_lt hlt, get_sees gm⟩
              refine ⟨_, ?_, S, ⟨trivial, by rw [put_N]; exact (mo en hmem).1, by rw [put_N]; exact (mo en hmem).2, trivial⟩⟩
              rw [hit]
              unfold Instr.next
              simp only [Sem.run_bind, getObj, Sem.run, gw, Result.andThen_ok, mw, hcond2, Bool.false_eq_true, if_false, l1, l2]
              simp [choose, Sem.run, Question.forced, ren, renA, renL, renE, setObj, gw, Sem.run_bind]
            · cases e
          · cases e
      · cases e
    · cases e
  · cases e
end

def notNil : Value → Bool
  | .pointer none | .nilIface | .nilFunc => false
  | .func (.method _) _ _ => false
  | _ => true

def aIndex (P : Program) (t : TypeId) (x i : Value) : Option Value :=
  match P.underlying t, x, i with
  | some (.array n el), .agg cs, .int _ i =>
    match P.info? el with
    | some f => if 0 ≤ i ∧ i < (n : Int) then aPart P el cs (i.toNat * f.size) else none
    | none => none
  | some .string, .string s, .int k i => match pureRun P (Instr.index t (.string s) (.int k i)) with
    | some v => if noAddr v then some v else none
    | none => none
  | _, _, _ => none

def aOp (P : Program) (h : AH) (ρ : Env) : Op → Option (Value × AH)
  | .move x | .assign x => match ρ x with
    | some v => some (v, h)
    | none => none
  | .pick c a b => match ρ c with
    | some (.bool t) => match ρ (if t then a else b) with
      | some v => some (v, h)
      | none => none
    | _ => none
  | .alloc e => aAlloc P h e
  | .box _ x => match ρ x with
    | some v => some (aBox h v)
    | none => none
  | .build t ps => match aParts ρ ps.toList with
    | some l => match aBuild P t l with
      | some v => some (v, h)
      | none => none
    | none => none
  | .buildSlice t n ps => match aParts ρ ps.toList with
    | some l => if n < openB then aBuildSlice P h t n l else none
    | none => none
  | .load t a => match ρ a with
    | some v => match aLoad P h t v with
      | some v => some (v, h)
      | none => none
    | none => none
  | .store t a x => match ρ a, ρ x with
    | some v, some u => match aStore P h t v u with
      | some h' => some (undef, h')
      | none => none
    | _, _ => none
  | .nilCheck x => match ρ x with
    | some v => if notNil v then some (v, h) else none
    | none => none
  | .binOp op xt x y _ => match ρ x, ρ y with
    | some a, some b =>
      if noAddr a && noAddr b then
        match pureRun P (do Go.eqGuard op xt x y a b; Go.binOp op xt a b) with
        | some v => if noAddr v then some (v, h) else none
        | none => none
      else match op with
        | .eql => match aEq P xt a b with
          | some t => some (.bool t, h)
          | none => none
        | .neq => match aEq P xt a b with
          | some t => some (.bool !t, h)
          | none => none
        | _ => none
    | _, _ => none
  | .unOp op _ x => match ρ x with
    | some a => if noAddr a then match pureRun P (Op.unary op a) with
        | some v => if noAddr v then some (v, h) else none
        | none => none
      else none
    | none => none
  | .convert s d x => match ρ x with
    | some a => if noAddr a then match pureRun P (Go.convert s d a) with
        | some v => if noAddr v then some (v, h) else none
        | none => none
      else none
    | none => none
  | .makeFunc fn first captured => match aArgs ρ first.toList, aArgs ρ captured.toList with
    | some f, some c => if noYield fn then some (.func fn ⟨f⟩ ⟨c⟩, h) else none
    | _, _ => none
  | .makeSlice t l c => match ρ l, ρ c with
    | some l, some c => aMakeSlice P h t l c
    | _, _ => none
  | .slice t x lo hi mx => match ρ x, aOptV ρ lo, aOptV ρ hi, aOptV ρ mx with
    | some x, some lo, some hi, some mx => match aSlice P t x lo hi mx with
      | some v => some (v, h)
      | none => aSliceEnd P h t x lo hi mx
    | _, _, _, _ => none
  | .fieldAddr s x f => match ρ x with
    | some x => match aFieldAddr P s f x with
      | some v => some (v, h)
      | none => none
    | none => none
  | .field t x f => match ρ x with
    | some x => match aField P t f x with
      | some v => some (v, h)
      | none => none
    | none => none
  | .indexAddr t x i => match ρ x, ρ i with
    | some x, some i => match aIndexAddr P t x i with
      | some v => some (v, h)
      | none => none
    | _, _ => none
  | .index t x i => match ρ x, ρ i with
    | some x, some i => match aIndex P t x i with
      | some v => some (v, h)
      | none => none
    | _, _ => none
  | .extract x i => match ρ x with
    | some x => match aExtract x i with
      | some v => some (v, h)
      | none => none
    | none => none
  | .lookup t x i ok => match ρ x, ρ i with
    | some x, some i => match aLookup P h t x i ok with
      | some v => some (v, h)
      | none => none
    | _, _ => none
  | .mapUpdate t m k x => match ρ m, ρ k, ρ x with
    | some m, some k, some x => match aMapUpdate P h t m k x with
      | some h' => some (undef, h')
      | none => none
    | _, _, _ => none
  | .insert t m k x => match ρ m, ρ k, ρ x with
    | some m, some k, some x => match aMapUpdate P h t m k x with
      | some h' => some (undef, h')
      | none => none
    | _, _, _ => none
  | .makeMap t r => match aOptV ρ r with
    | some r => aMakeMap P h t r
    | none => none
  | .range t x => match ρ x with
    | some x => aRange P h t x
    | none => none
  | .next it str => match ρ it with
    | some it => aNext h it str
    | none => none
  | .entry it => match ρ it with
    | some it => match aEntry h it with
      | some v => some (v, h)
      | none => none
    | none => none
  | _ => none

def ERel (φ : Nat → Nat × Nat) (κ : Nat → Nat) (N : Nat → Prop) (ρ : Env) (ev : Operand → Value) : Prop := ∀ x v, ρ x = some v → ev x = ren φ κ v ∧ okV N κ v

section
variable {P : Program} {w0 w w' : World} {φ φ' : Nat → Nat × Nat} {κ κ' : Nat → Nat} {h h' : AH} {ρ : Env} {ev : Operand → Value}

theorem aArgs_sound {N : Nat → Prop} (E : ERel φ κ N ρ ev) : ∀ (l : List Operand) (vs : List Value), aArgs ρ l = some vs → l.map ev = vs.map (ren φ κ) ∧ ∀ v ∈ vs, okV N κ v := by
  intro l
  induction l with
  | nil => intro vs e; simp only [aArgs, Option.some.injEq] at e; subst e; simp
  | cons x r ih =>
    intro vs e
    simp only [aArgs] at e
    split at e
    · rename_i v l hx hr
      injection e with e
      subst e
      obtain ⟨i1, i2⟩ := ih _ hr
      obtain ⟨e1, e2⟩ := E x v hx
      exact ⟨by simp [i1, e1], fun u hu => by
        rcases List.mem_cons.1 hu with hu | hu
        · exact hu ▸ e2
        · exact i2 u hu⟩
    · cases e
theorem aParts_sound {N : Nat → Prop} (E : ERel φ κ N ρ ev) : ∀ (l : List (Nat × Operand)) (vs : List (Nat × Value)), aParts ρ l = some vs → (l.map fun p => (p.1, ev p.2)) = renP φ κ vs ∧ ∀ p ∈ vs, okV N κ p.2 := by
  intro l
  induction l with
  | nil => intro vs e; simp only [aParts, Option.some.injEq] at e; subst e; simp [renP]
  | cons x r ih =>
    obtain ⟨i, x⟩ := x
    intro vs e
    simp only [aParts] at e
    split at e
    · rename_i v l hx hr
      injection e with e
      subst e
      obtain ⟨i1, i2⟩ := ih _ hr
      obtain ⟨e1, e2⟩ := E x v hx
      refine ⟨?_, fun u hu => ?_⟩
      · simp only [List.map_cons, renP] at i1 ⊢
        rw [i1, e1]
      · rcases List.mem_cons.1 hu with hu | hu
        · exact hu ▸ e2
        · exact i2 u hu
    · cases e
theorem aOptV_sound {N : Nat → Prop} (E : ERel φ κ N ρ ev) {x : Option Operand} {v : Option Value} (e : aOptV ρ x = some v) : x.map ev = v.map (ren φ κ) := by
  cases x with
  | none => simp only [aOptV, Option.some.injEq] at e; subst e; rfl
  | some x =>
    simp only [aOptV] at e
    split at e
    · rename_i u hu
      injection e with e
      subst e
      simp [(E x u hu).1]
    · cases e

def plainK : Value → Bool
  | .nilIface | .agg _ => false
  | _ => true
theorem eqGuard_ok (op : BinOp) (t : TypeId) (xo yo : Operand) (u v : Value) (hu : plainK u = true) (w : World) : (Go.eqGuard op t xo yo u v).run P w = .ok () w := by
  cases u <;> first
    | (simp [plainK] at hu; done)
    | (cases op <;> rfl)

theorem isNil_sound {N : Nat → Prop} {a : Option Addr} {n c : Nat} {t : Bool} (e : isNil a n c = some t) (o : okV N κ (.slice a n c)) : ∃ a' c', ren φ κ (.slice a n c) = .slice a' n c' ∧ a'.isNone = t := by
  cases a with
  | none =>
    simp only [isNil, Option.some.injEq] at e
    subst e
    exact ⟨none, c, by simp only [ren], rfl⟩
  | some a =>
    refine ⟨_, _, ren_slice o, ?_⟩
    simp only [okV] at o
    simp only [isNil] at e
    have hk : κ a.block ≠ 0 ∧ t = false := by
      split at e
      · rename_i hc
        injection e with e
        refine ⟨fun hk => ?_, e.symm⟩
        have := o.2.1 hk
        rcases hc with hc | hc
        · exact hc this.1
        · exact hc.2 (this.2 hc.1)
      · cases e
    rw [if_neg hk.1, hk.2]
    rfl

theorem sliceEq {t el : TypeId} (hu : P.underlying t = some (.slice el)) (a b : Option Addr) (n c m d : Nat) (hab : a = none ∨ b = none) (w : World) : ((Op.equal t (.slice a n c) (.slice b m d)).run P w = .ok (match a, b with | none, b => b.isNone | some _, _ => false) w) ∧ (∀ op xo yo, (Go.eqGuard op t xo yo (.slice a n c) (.slice b m d)).run P w = .ok () w) := by
  refine ⟨?_, fun op xo yo => eqGuard_ok op t xo yo _ _ rfl w⟩
  show (Op.equalIn (9999 + 1) t _ _).run P w = _
  unfold Op.equalIn
  rw [Sem.run_bind, run_underlying hu]
  cases a <;> cases b <;> first | rfl | (simp at hab)

theorem aEq_sound {N : Nat → Prop} {t : TypeId} {x y : Value} {b : Bool} (e : aEq P t x y = some b) (ox : okV N κ x) (oy : okV N κ y) (w : World) : (Op.equal t (ren φ κ x) (ren φ κ y)).run P w = .ok b w ∧ (∀ op xo yo, (Go.eqGuard op t xo yo (ren φ κ x) (ren φ κ y)).run P w = .ok () w) ∧ Go.binOp .eql t (ren φ κ x) (ren φ κ y) = (do pure (.bool (← Op.equal t (ren φ κ x) (ren φ κ y)))) ∧ Go.binOp .neq t (ren φ κ x) (ren φ κ y) = (do pure (.bool (!(← Op.equal t (ren φ κ x) (ren φ κ y))))) := by
  have key : ∀ (d : TypeDesc) (u v : Value), P.underlying t = some d → (Op.equal t u v).run P w = (Op.equalIn (9999 + 1) t u v).run P w := fun _ _ _ _ => rfl
  unfold aEq at e
  split at e
  rotate_left
  rotate_left
  · rename_i el m d b n c hu
    obtain ⟨a', c', h1, h2⟩ := isNil_sound e oy
    have hn : ren φ κ (.slice none m d) = .slice none m d := by simp only [ren]
    rw [hn, h1]
    obtain ⟨q1, q2⟩ := sliceEq (P := P) hu none a' m d n c' (.inl rfl) w
    refine ⟨by rw [q1]; exact congrArg (Result.ok · w) h2, q2, by cases a' <;> rfl, by cases a' <;> rfl⟩
  · rename_i el a n c m d hu
    obtain ⟨a', c', h1, h2⟩ := isNil_sound e ox
    have hn : ren φ κ (.slice none m d) = .slice none m d := by simp only [ren]
    rw [hn, h1]
    obtain ⟨q1, q2⟩ := sliceEq (P := P) hu a' none n c' m d (.inr rfl) w
    refine ⟨by rw [q1]; cases a' <;> exact congrArg (Result.ok · w) h2, q2, by cases a' <;> rfl, by cases a' <;> rfl⟩
  all_goals first
    | (cases e; done)
    | (rename_i hu
       injection e with e
       subst e
       refine ⟨?_, ?_, ?_, ?_⟩
       · rw [key _ _ _ hu]
         unfold Op.equalIn
         rw [Sem.run_bind, run_underlying hu]
         first
           | rfl
           | (rename_i b; cases b <;> rfl)
           | (rename_i b _ _ _; cases b <;> rfl)
           | (rename_i b _ _; cases b <;> rfl)
           | (rename_i b _; cases b <;> rfl)
       · intro op xo yo
         exact eqGuard_ok op t xo yo _ _ (by first | rfl | (rename_i b; cases b <;> rfl)) w
       all_goals first
         | rfl
         | (rename_i b; cases b <;> rfl)
         | (rename_i b _; cases b <;> rfl)
         | (rename_i b _ _; cases b <;> rfl)
         | (rename_i b _ _ _; cases b <;> rfl))

/- what an operation leaves: a value in its slot, and the world behind it -/
def Leaves (r : Result Next) (v : Value) (w' : World) : Prop := r = .ok (.value v) w' ∨ (r = .ok .skip w' ∧ v = undef)

theorem leaves_value {r : Result Next} {v : Value} {w' : World} (e : r = .ok (.value v) w') : Leaves r v w' := .inl e
theorem leaves_skip {r : Result Next} {w' : World} (e : r = .ok .skip w') : Leaves r undef w' := .inr ⟨e, rfl⟩

theorem run_v {s : Sem Value} {v : Value} (e : s.run P w = .ok v w') : (do pure (.value (← s)) : Sem Next).run P w = .ok (.value v) w' := by
  rw [Sem.run_bind, e]; rfl
theorem run_u {s : Sem Unit} (e : s.run P w = .ok () w') : (do s; pure .skip : Sem Next).run P w = .ok .skip w' := by
  rw [Sem.run_bind, e]; rfl

def Sound (w0 : World) (φ : Nat → Nat × Nat) (κ : Nat → Nat) (h h' : AH) (v : Value) (r : Result Next) : Prop :=
  ∃ φ' κ' w', Leaves r (ren φ' κ' v) w' ∧ Step w0 φ κ h φ' κ' h' w' ∧ okV h'.N κ' v

theorem sound_same (R : Rel w0 φ κ h w) {v : Value} {r : Result Next} (e : r = .ok (.value (ren φ κ v)) w) (o : okV h.N κ v) : Sound w0 φ κ h h v r := ⟨φ, κ, w, leaves_value e, R.step, o⟩

theorem aIndex_sound {N : Nat → Prop} {t : TypeId} {x i v : Value} (e : aIndex P t x i = some v) (o : okV N κ x) :
    (Instr.index t (ren φ κ x) (ren φ κ i)).run P w = .ok (ren φ κ v) w ∧ okV N κ v := by
  unfold aIndex at e
  split at e
  · rename_i n el cs kk i hu
    split at e
    · rename_i f hf
      split at e
      · rename_i hi
        obtain ⟨h1, h2⟩ := aPart_sound (w := w) (φ := φ) e (by simpa only [okV] using o)
        refine ⟨?_, h2⟩
        unfold Instr.index
        simp only [ren, asIntOf, Sem.run_bind, Sem.run_pure, Result.andThen_ok, run_underlying hu, hi, and_self, if_true, run_sizeOf' hf, h1]
      · cases e
    · cases e
  · rename_i st kk i hu
    split at e
    · rename_i u hu2
      split at e
      · rename_i hn
        injection e with e
        subst e
        refine ⟨?_, ok_noAddr _ _ _ hn⟩
        rw [show ren φ κ (.string st) = .string st by simp [ren], show ren φ κ (.int kk i) = .int kk i by simp [ren], ren_noAddr _ _ _ hn]
        exact pureRun_run hu2
      · cases e
    · cases e
  · cases e

theorem notNil_sound {x : Value} (e : notNil x = true) (o : Oper) (xo : Operand) (ho : o.op = .nilCheck xo) (hx : ev xo = ren φ κ x) : (execOp ev o).run P w = .ok (.value (ren φ κ x)) w := by
  unfold execOp
  rw [ho]
  simp only [hx]
  cases x with
  | pointer a => cases a with
    | none => simp [notNil] at e
    | some a => rfl
  | slice a n c =>
    cases a with
    | none => rfl
    | some a =>
      obtain ⟨b', c', e'⟩ := ren_sl (φ := φ) (κ := κ) (some a) n c
      rw [e']
      rfl
  | map a => cases a <;> rfl
  | func fn first captured => cases fn with
    | method _ => simp [notNil] at e
    | _ => simp only [ren, renF]; rfl
  | nilFunc => simp [notNil] at e
  | nilIface => simp [notNil] at e
  | _ => rfl

theorem aOp_sound (R : Rel w0 φ κ h w) (E : ERel φ κ h.N ρ ev) {o : Oper} {v : Value} (e : aOp P h ρ o.op = some (v, h')) : Sound w0 φ κ h h' v ((execOp ev o).run P w) := by
  obtain ⟨dst, op, ty, pos, after, guard⟩ := o
  dsimp only at e
  cases op with
  | move x =>
    simp only [aOp] at e
    split at e
    · rename_i u hu
      simp only [Option.some.injEq, Prod.mk.injEq] at e
      obtain ⟨rfl, rfl⟩ := e
      exact sound_same R (by show Result.ok _ _ = _; rw [(E x _ hu).1]) (E x _ hu).2
    · cases e
  | assign x =>
    simp only [aOp] at e
    split at e
    · rename_i u hu
      simp only [Option.some.injEq, Prod.mk.injEq] at e
      obtain ⟨rfl, rfl⟩ := e
      exact sound_same R (by show Result.ok _ _ = _; rw [(E x _ hu).1]) (E x _ hu).2
    · cases e
  | pick c a b =>
    simp only [aOp] at e
    split at e
    · rename_i t ht
      split at e
      · rename_i u hu
        simp only [Option.some.injEq, Prod.mk.injEq] at e
        obtain ⟨rfl, rfl⟩ := e
        have hc := (E c _ ht).1
        refine sound_same R ?_ (E _ _ hu).2
        unfold execOp
        simp only [hc, ren, asBool, Sem.run_bind, Sem.run_pure, Result.andThen_ok]
        rw [← (E _ _ hu).1]
        cases t <;> rfl
      · cases e
    · cases e
  | alloc t =>
    simp only [aOp] at e
    obtain ⟨φ', κ', w', h1, h2, h3⟩ := aAlloc_sound (P := P) R e
    exact ⟨φ', κ', w', leaves_value (run_v h1), h2, h3⟩
  | box t x =>
    simp only [aOp] at e
    split at e
    · rename_i u hu
      injection e with e
      obtain ⟨φ', κ', w', h1, h2, h3⟩ := aBox_sound (P := P) (el := t) R (E x u hu).2
      rw [e] at h1 h2 h3
      refine ⟨φ', κ', w', leaves_value (run_v ?_), h2, h3⟩
      rw [(E x u hu).1]
      exact h1
    · cases e
  | build t ps =>
    simp only [aOp] at e
    split at e
    · rename_i l hl
      split at e
      · rename_i u hu
        simp only [Option.some.injEq, Prod.mk.injEq] at e
        obtain ⟨rfl, rfl⟩ := e
        obtain ⟨p1, p2⟩ := aParts_sound E _ _ hl
        obtain ⟨h1, h2⟩ := aBuild_sound (w := w) (φ := φ) hu p2
        refine sound_same R (run_v ?_) h2
        have : (ps.map fun (i, x) => (i, ev x)) = (renP φ κ l).toArray := by
          apply Array.ext'
          rw [← p1]
          simp
        rw [this]
        exact h1
      · cases e
    · cases e
  | buildSlice t n ps =>
    simp only [aOp] at e
    split at e
    · rename_i l hl
      split at e
      · rename_i hn
        obtain ⟨p1, p2⟩ := aParts_sound E _ _ hl
        obtain ⟨φ', κ', w', h1, h2, h3⟩ := aBuildSlice_sound (P := P) R e p2 hn
        refine ⟨φ', κ', w', leaves_value (run_v ?_), h2, h3⟩
        have : (ps.map fun (i, x) => (i, ev x)) = (renP φ κ l).toArray := by
          apply Array.ext'
          rw [← p1]
          simp
        rw [this]
        exact h1
      · cases e
    · cases e
  | load t a =>
    simp only [aOp] at e
    split at e
    · rename_i u hu
      split at e
      · rename_i v' hv
        simp only [Option.some.injEq, Prod.mk.injEq] at e
        obtain ⟨rfl, rfl⟩ := e
        obtain ⟨h1, h2⟩ := aLoad_sound (P := P) R hv
        exact sound_same R (run_v (by rw [(E a u hu).1]; exact h1)) h2
      · cases e
    · cases e
  | store t a x =>
    simp only [aOp] at e
    split at e
    · rename_i u x' hu hx
      split at e
      · rename_i h2 hs
        simp only [Option.some.injEq, Prod.mk.injEq] at e
        obtain ⟨rfl, rfl⟩ := e
        obtain ⟨w', h1, h2⟩ := aStore_sound (P := P) R hs (E a u hu).2 (E x _ hx).2
        exact ⟨φ, κ, w', leaves_skip (run_u (by rw [(E a u hu).1, (E x _ hx).1]; exact h1)), h2, by simp [undef, okV, okA, okL]⟩
      · cases e
    · cases e
  | nilCheck x =>
    simp only [aOp] at e
    split at e
    · rename_i u hu
      split at e
      · rename_i hn
        simp only [Option.some.injEq, Prod.mk.injEq] at e
        obtain ⟨rfl, rfl⟩ := e
        exact sound_same R (notNil_sound hn _ x rfl (E x _ hu).1) (E x _ hu).2
      · cases e
    · cases e
  | binOp op xt x y yt =>
    simp only [aOp] at e
    split at e
    · rename_i a b ha hb
      split at e
      · rename_i hn
        simp only [Bool.and_eq_true] at hn
        split at e
        · rename_i u hu
          split at e
          · rename_i hnu
            simp only [Option.some.injEq, Prod.mk.injEq] at e
            obtain ⟨rfl, rfl⟩ := e
            refine sound_same R (run_v ?_) (ok_noAddr _ _ _ hnu)
            rw [(E x a ha).1, (E y b hb).1, ren_noAddr _ _ _ hn.1, ren_noAddr _ _ _ hn.2, ren_noAddr _ _ _ hnu]
            exact pureRun_run hu
          · cases e
        · cases e
      · split at e
        · split at e
          · rename_i t ht
            simp only [Option.some.injEq, Prod.mk.injEq] at e
            obtain ⟨rfl, rfl⟩ := e
            obtain ⟨h1, h2, h3, h4⟩ := aEq_sound (φ := φ) ht (E x a ha).2 (E y b hb).2 w
            refine sound_same R (run_v ?_) (by simp [okV])
            rw [(E x a ha).1, (E y b hb).1, Sem.run_bind, h2]
            show (Go.binOp .eql xt _ _).run P w = _
            rw [h3, Sem.run_bind, h1]
            rfl
          · cases e
        · split at e
          · rename_i t ht
            simp only [Option.some.injEq, Prod.mk.injEq] at e
            obtain ⟨rfl, rfl⟩ := e
            obtain ⟨h1, h2, h3, h4⟩ := aEq_sound (φ := φ) ht (E x a ha).2 (E y b hb).2 w
            refine sound_same R (run_v ?_) (by simp [okV])
            rw [(E x a ha).1, (E y b hb).1, Sem.run_bind, h2]
            show (Go.binOp .neq xt _ _).run P w = _
            rw [h4, Sem.run_bind, h1]
            rfl
          · cases e
        · cases e
    · cases e
  | unOp op t x =>
    simp only [aOp] at e
    split at e
    · rename_i a ha
      split at e
      · rename_i hn
        split at e
        · rename_i u hu
          split at e
          · rename_i hnu
            simp only [Option.some.injEq, Prod.mk.injEq] at e
            obtain ⟨rfl, rfl⟩ := e
            refine sound_same R (run_v ?_) (ok_noAddr _ _ _ hnu)
            rw [(E x a ha).1, ren_noAddr _ _ _ hn, ren_noAddr _ _ _ hnu]
            exact pureRun_run hu
          · cases e
        · cases e
      · cases e
    · cases e
  | convert s d x =>
    simp only [aOp] at e
    split at e
    · rename_i a ha
      split at e
      · rename_i hn
        split at e
        · rename_i u hu
          split at e
          · rename_i hnu
            simp only [Option.some.injEq, Prod.mk.injEq] at e
            obtain ⟨rfl, rfl⟩ := e
            refine sound_same R (run_v ?_) (ok_noAddr _ _ _ hnu)
            rw [(E x a ha).1, ren_noAddr _ _ _ hn, ren_noAddr _ _ _ hnu]
            exact pureRun_run hu
          · cases e
        · cases e
      · cases e
    · cases e
  | makeFunc fn first captured =>
    simp only [aOp] at e
    split at e
    · rename_i f c hf hc
      split at e
      rotate_left
      · cases e
      rename_i hny
      simp only [Option.some.injEq, Prod.mk.injEq] at e
      obtain ⟨rfl, rfl⟩ := e
      obtain ⟨f1, f2⟩ := aArgs_sound E _ _ hf
      obtain ⟨c1, c2⟩ := aArgs_sound E _ _ hc
      refine sound_same R (run_v ?_) (by simp only [okV, okA, okL_iff]; exact ⟨okF_no _ hny, f2, c2⟩)
      have q1 : first.map ev = (f.map (ren φ κ)).toArray := by apply Array.ext'; simpa using f1
      have q2 : captured.map ev = (c.map (ren φ κ)).toArray := by apply Array.ext'; simpa using c1
      rw [q1, q2]
      simp [Instr.makeFunc, ren, renA, renL_map, renF_no φ hny]
    · cases e
  | makeSlice t l c =>
    simp only [aOp] at e
    split at e
    · rename_i a b ha hb
      obtain ⟨φ', κ', w', h1, h2, h3⟩ := aMakeSlice_sound (P := P) R e
      exact ⟨φ', κ', w', leaves_value (run_v (by rw [(E l a ha).1, (E c b hb).1]; exact h1)), h2, h3⟩
    · cases e
  | slice t x lo hi mx =>
    simp only [aOp] at e
    split at e
    · rename_i a l b m ha hl hb hm
      split at e
      · rename_i u hu
        simp only [Option.some.injEq, Prod.mk.injEq] at e
        obtain ⟨rfl, rfl⟩ := e
        obtain ⟨h1, h2⟩ := aSlice_sound (P := P) (w := w) (φ := φ) hu (E x a ha).2
        exact sound_same R (run_v (by rw [(E x a ha).1, aOptV_sound E hl, aOptV_sound E hb, aOptV_sound E hm]; exact h1)) h2
      · obtain ⟨φ', κ', w', h1, h2, h3⟩ := aSliceEnd_sound (P := P) R e (E x a ha).2
        exact ⟨φ', κ', w', leaves_value (run_v (by rw [(E x a ha).1, aOptV_sound E hl, aOptV_sound E hb, aOptV_sound E hm]; exact h1)), h2, h3⟩
    · cases e
  | fieldAddr s x f =>
    simp only [aOp] at e
    split at e
    · rename_i a ha
      split at e
      · rename_i u hu
        simp only [Option.some.injEq, Prod.mk.injEq] at e
        obtain ⟨rfl, rfl⟩ := e
        obtain ⟨h1, h2⟩ := aFieldAddr_sound (P := P) (w := w) (φ := φ) hu (E x a ha).2
        exact sound_same R (run_v (by rw [(E x a ha).1]; exact h1)) h2
      · cases e
    · cases e
  | field t x f =>
    simp only [aOp] at e
    split at e
    · rename_i a ha
      split at e
      · rename_i u hu
        simp only [Option.some.injEq, Prod.mk.injEq] at e
        obtain ⟨rfl, rfl⟩ := e
        obtain ⟨h1, h2⟩ := aField_sound (P := P) (w := w) (φ := φ) hu (E x a ha).2
        exact sound_same R (run_v (by rw [(E x a ha).1]; exact h1)) h2
      · cases e
    · cases e
  | indexAddr t x i =>
    simp only [aOp] at e
    split at e
    · rename_i a b ha hb
      split at e
      · rename_i u hu
        simp only [Option.some.injEq, Prod.mk.injEq] at e
        obtain ⟨rfl, rfl⟩ := e
        obtain ⟨h1, h2⟩ := aIndexAddr_sound (P := P) (w := w) (φ := φ) hu (E x a ha).2
        exact sound_same R (run_v (by rw [(E x a ha).1, (E i b hb).1]; exact h1)) h2
      · cases e
    · cases e
  | index t x i =>
    simp only [aOp] at e
    split at e
    · rename_i a b ha hb
      split at e
      · rename_i u hu
        simp only [Option.some.injEq, Prod.mk.injEq] at e
        obtain ⟨rfl, rfl⟩ := e
        obtain ⟨h1, h2⟩ := aIndex_sound (P := P) (w := w) (φ := φ) hu (E x a ha).2
        exact sound_same R (run_v (by rw [(E x a ha).1, (E i b hb).1]; exact h1)) h2
      · cases e
    · cases e
  | extract x i =>
    simp only [aOp] at e
    split at e
    · rename_i a ha
      split at e
      · rename_i u hu
        simp only [Option.some.injEq, Prod.mk.injEq] at e
        obtain ⟨rfl, rfl⟩ := e
        obtain ⟨h1, h2⟩ := aExtract_sound (P := P) (w := w) (φ := φ) hu (E x a ha).2
        exact sound_same R (run_v (by rw [(E x a ha).1]; exact h1)) h2
      · cases e
    · cases e
  | lookup t x i ok =>
    simp only [aOp] at e
    split at e
    · rename_i a b ha hb
      split at e
      · rename_i u hu
        simp only [Option.some.injEq, Prod.mk.injEq] at e
        obtain ⟨rfl, rfl⟩ := e
        obtain ⟨h1, h2⟩ := aLookup_sound (P := P) R hu (E i b hb).2
        exact sound_same R (run_v (by rw [(E x a ha).1, (E i b hb).1]; exact h1)) h2
      · cases e
    · cases e
  | mapUpdate t m k x =>
    simp only [aOp] at e
    split at e
    · rename_i a b c ha hb hc
      split at e
      · rename_i u hu
        simp only [Option.some.injEq, Prod.mk.injEq] at e
        obtain ⟨rfl, rfl⟩ := e
        obtain ⟨w', h1, h2⟩ := aMapUpdate_sound (P := P) R hu (E k b hb).2 (E x c hc).2
        exact ⟨_, _, w', leaves_skip (run_u (by rw [(E m a ha).1, (E k b hb).1, (E x c hc).1]; exact h1)), h2, trivial⟩
      · cases e
    · cases e
  | insert t m k x =>
    simp only [aOp] at e
    split at e
    · rename_i a b c ha hb hc
      split at e
      · rename_i u hu
        simp only [Option.some.injEq, Prod.mk.injEq] at e
        obtain ⟨rfl, rfl⟩ := e
        obtain ⟨w', h1, h2⟩ := aMapUpdate_sound (P := P) R hu (E k b hb).2 (E x c hc).2
        exact ⟨_, _, w', leaves_skip (run_u (by rw [(E m a ha).1, (E k b hb).1, (E x c hc).1]; exact h1)), h2, trivial⟩
      · cases e
    · cases e
  | makeMap t r =>
    simp only [aOp] at e
    split at e
    · rename_i a ha
      obtain ⟨φ', κ', w', h1, h2, h3⟩ := aMakeMap_sound (P := P) R e
      exact ⟨φ', κ', w', leaves_value (run_v (by rw [aOptV_sound E ha]; exact h1)), h2, h3⟩
    · cases e
  | range t x =>
    simp only [aOp] at e
    split at e
    · rename_i a ha
      obtain ⟨φ', κ', w', h1, h2, h3⟩ := aRange_sound (P := P) R e
      exact ⟨φ', κ', w', leaves_value (run_v (by rw [(E x a ha).1]; exact h1)), h2, h3⟩
    · cases e
  | next it str =>
    simp only [aOp] at e
    split at e
    · rename_i a ha
      obtain ⟨w', h1, h2, h3⟩ := aNext_sound (P := P) (ty := ty) R e
      exact ⟨_, _, w', leaves_value (run_v (by rw [(E it a ha).1]; exact h1)), h2, h3⟩
    · cases e
  | entry it =>
    simp only [aOp] at e
    split at e
    · rename_i a ha
      split at e
      · rename_i u hu
        simp only [Option.some.injEq, Prod.mk.injEq] at e
        obtain ⟨rfl, rfl⟩ := e
        obtain ⟨h1, h2⟩ := aEntry_sound (P := P) R hu
        exact sound_same R (run_v (by rw [(E it a ha).1]; exact h1)) h2
      · cases e
    · cases e
  | _ => simp [aOp] at e
end
end Go.Vm

/- VmI: A machine for closed runs, ninth part: builtins, growth, frames. -/
namespace Go.Vm
open Go Go.RowKit

def noAddrs : List Value → Bool
  | [] => true
  | v :: r => noAddr v && noAddrs r

def aLen (h : AH) : Value → Option Value
  | .slice _ n _ => some (.int .i64 n)
  | .map none => some (.int .i64 0)
  | .map (some r) => match h.get r with
    | some (.map es _) => some (.int .i64 es.length)
    | _ => none
  | _ => none

def isSliceD : TypeDesc → Bool
  | .slice _ => true
  | _ => false
def isMapD : TypeDesc → Bool
  | .map _ _ => true
  | _ => false

def aBuiltin (P : Program) (h : AH) (b : Builtin) (ts : Array TypeId) (ty : TypeId) (args : List Value) : Option (Value × AH) :=
  match b, args with
  | .len, [.slice _ n _] => match ts[0]? with
    | some t => match P.underlying t with
      | some (.slice _) => some (.int .i64 n, h)
      | _ => none
    | none => none
  | .len, [.map (some r)] => match ts[0]? with
    | some t => match P.underlying t, h.get r with
      | some (.map _ _), some (.map es _) => some (.int .i64 es.length, h)
      | _, _ => none
    | none => none
  | .len, args => if noAddrs args then match pureRun P (Builtin.len_ ts ty args.toArray) with
      | some v => if noAddr v then some (v, h) else none
      | none => none
    else none
  | .cap, [.slice _ _ c] => match ts[0]? with
    | some t => match P.underlying t with
      | some (.slice _) => if c < openB then some (.int .i64 c, h) else none
      | _ => none
    | none => none
  | .min, args => if noAddrs args then match pureRun P (Builtin.min_ ts ty args.toArray) with
      | some v => if noAddr v then some (v, h) else none
      | none => none
    else none
  | .max, args => if noAddrs args then match pureRun P (Builtin.max_ ts ty args.toArray) with
      | some v => if noAddr v then some (v, h) else none
      | none => none
    else none
  | .append, [s, x] => aAppend P h ts s x
  | .copy, [d, x] => aCopy P h ts d x
  | _, _ => none

structure Grow (h h' : AH) : Prop where
  next : h.next ≤ h'.next
  hid : h'.hid = h.hid
  wlim : h'.wlim = h.wlim
  keep : ∀ k, k < h.wlim → h'.tr.get k = h.tr.get k

section
variable {P : Program} {w0 w w' : World} {φ φ' : Nat → Nat × Nat} {κ κ' : Nat → Nat} {h h' h'' : AH} {ρ : Env} {ev : Operand → Value}

theorem Grow.refl (h : AH) : Grow h h := ⟨Nat.le_refl _, rfl, rfl, fun _ _ => rfl⟩
theorem Grow.trans (a : Grow h h') (b : Grow h' h'') : Grow h h'' := ⟨Nat.le_trans a.next b.next, b.hid.trans a.hid, b.wlim.trans a.wlim, fun k hk => (b.keep k (by rw [a.wlim]; exact hk)).trans (a.keep k hk)⟩
theorem Grow.wl (a : Grow h h') (hw : h.wlim ≤ h.next) : h'.wlim ≤ h'.next := by rw [a.wlim]; exact Nat.le_trans hw a.next
theorem grow_new (hw : h.wlim ≤ h.next) (o : AObj) : Grow h (h.new o) := ⟨by rw [new_next]; omega, rfl, rfl, fun k hk => by rw [new_tr, Tr.get_put, if_neg (by omega)]⟩
theorem grow_put {k : Nat} (hk : h.wlim ≤ k) (o : Option AObj) : Grow h (h.put k o) := ⟨Nat.le_refl _, rfl, rfl, fun j hj => by rw [put_tr, Tr.get_put, if_neg (by omega)]⟩

theorem aAlloc_grow (hw : h.wlim ≤ h.next) {t : TypeId} {r : Value × AH} (e : aAlloc P h t = some r) : Grow h r.2 := by
  unfold aAlloc at e
  cases hz : zeroOf P t with
  | none => rw [hz] at e; cases e
  | some z => rw [hz] at e; injection e with e; subst e; exact grow_new hw _
theorem aStore_grow {t : TypeId} {a v : Value} (e : aStore P h t a v = some h') : Grow h h' := by
  unfold aStore at e
  split at e
  · split at e
    · split at e
      · rename_i hc
        injection e with e
        subst e
        exact grow_put hc.2.2.1 _
      · cases e
    · cases e
  · cases e
theorem aBuildSlice_grow (hw : h.wlim ≤ h.next) {t : TypeId} {n : Nat} {ps : List (Nat × Value)} {r : Value × AH} (e : aBuildSlice P h t n ps = some r) : Grow h r.2 := by
  unfold aBuildSlice at e
  split at e
  · split at e
    · split at e
      · split at e
        · injection e with e; subst e; exact grow_new hw _
        · cases e
      · cases e
    · cases e
  · cases e
theorem aMakeSlice_grow (hw : h.wlim ≤ h.next) {t : TypeId} {l c : Value} {r : Value × AH} (e : aMakeSlice P h t l c = some r) : Grow h r.2 := by
  unfold aMakeSlice at e
  split at e
  · split at e
    · split at e
      · injection e with e; subst e; exact grow_new hw _
      · cases e
    · cases e
  · cases e
theorem aAppend_grow (hw : h.wlim ≤ h.next) {ts : Array TypeId} {s x : Value} {r : Value × AH} (e : aAppend P h ts s x = some r) : Grow h r.2 := by
  unfold aAppend at e
  split at e
  · split at e
    · split at e
      · split at e
        · cases e
        · split at e
          · split at e
            · injection e with e; subst e; exact Grow.refl _
            · cases e
          · split at e
            · split at e
              · split at e
                · split at e
                  · split at e
                    · rename_i hc
                      injection e with e; subst e; exact grow_put hc.1 _
                    · cases e
                  · cases e
                · cases e
              · split at e
                · unfold aGrow at e
                  split at e
                  · injection e with e; subst e; exact grow_new hw _
                  · cases e
                · cases e
            · split at e
              · split at e
                · split at e
                  · rename_i hc
                    split at e
                    · split at e
                      · injection e with e; subst e; exact (grow_new hw _).trans (grow_put (h := h.new _) (by rw [new_wlim]; exact hc.1) _)
                      · cases e
                    · cases e
                  · cases e
                · cases e
              · cases e
      · cases e
    · cases e
  · cases e
theorem aCopy_grow {ts : Array TypeId} {d x : Value} {r : Value × AH} (e : aCopy P h ts d x = some r) : Grow h r.2 := by
  unfold aCopy at e
  split at e
  · split at e
    · split at e
      · split at e
        · split at e
          · rename_i hc
            injection e with e; subst e; dsimp only; split
            · exact Grow.refl _
            · exact grow_put hc.1 _
          · cases e
        · cases e
      · cases e
    · cases e
  · cases e

theorem grow_bump (hw : h.wlim ≤ h.next) : Grow h h.bump := ⟨Nat.le_succ _, rfl, rfl, fun k hk => by
  show (h.tr.put h.next none).get k = _
  rw [Tr.get_put, if_neg (by omega)]⟩
theorem aSliceEnd_grow (hw : h.wlim ≤ h.next) {t : TypeId} {x : Value} {lo hi mx : Option Value} {r : Value × AH} (e : aSliceEnd P h t x lo hi mx = some r) : Grow h r.2 := by
  unfold aSliceEnd at e
  split at e
  · split at e
    · split at e
      · injection e with e; subst e; exact grow_bump hw
      · cases e
    · cases e
  · cases e

theorem aMapUpdate_grow {t : TypeId} {m k x : Value} (e : aMapUpdate P h t m k x = some h') : Grow h h' := by
  unfold aMapUpdate at e
  split at e
  · split at e
    · split at e
      · rename_i hc
        simp only [Bool.and_eq_true, decide_eq_true_eq] at hc
        split at e
        · split at e
          · split at e
            · injection e with e; subst e; exact grow_put hc.2 _
            · cases e
          · cases e
        · injection e with e; subst e; exact grow_put hc.2 _
        · cases e
      · cases e
    · cases e
  · cases e
theorem aMakeMap_grow (hw : h.wlim ≤ h.next) {t : TypeId} {x : Option Value} {r : Value × AH} (e : aMakeMap P h t x = some r) : Grow h r.2 := by
  unfold aMakeMap at e
  split at e
  · injection e with e; subst e; exact grow_new hw _
  · injection e with e; subst e; exact grow_new hw _
  · cases e
theorem aRange_grow (hw : h.wlim ≤ h.next) {t : TypeId} {x : Value} {r : Value × AH} (e : aRange P h t x = some r) : Grow h r.2 := by
  unfold aRange at e
  split at e
  · split at e
    · injection e with e; subst e; exact grow_new hw _
    · cases e
  · cases e
theorem aNext_grow {x : Value} {b : Bool} {r : Value × AH} (e : aNext h x b = some r) : Grow h r.2 := by
  unfold aNext at e
  split at e
  · split at e
    · split at e
      · split at e
        · cases e
        · split at e
          · injection e with e; subst e; exact Grow.refl _
          · split at e
            · injection e with e; subst e; exact grow_put ‹_› _
            · cases e
          · cases e
      · cases e
    · cases e
  · cases e
theorem aOp_grow (hw : h.wlim ≤ h.next) {o : Op} {v : Value} (e : aOp P h ρ o = some (v, h')) : Grow h h' := by
  unfold aOp at e
  repeat' split at e
  all_goals first
    | (cases e; done)
    | (have := aAlloc_grow hw e; exact this)
    | (have := aBuildSlice_grow hw e; exact this)
    | (have := aMakeSlice_grow hw e; exact this)
    | (have := aSliceEnd_grow hw e; exact this)
    | (have := aMakeMap_grow hw e; exact this)
    | (have := aRange_grow hw e; exact this)
    | (have := aNext_grow e; exact this)
    | (simp only [Option.some.injEq, Prod.mk.injEq] at e; obtain ⟨_, rfl⟩ := e; first | exact Grow.refl _ | exact aStore_grow ‹_› | exact aMapUpdate_grow ‹_›)
    | (simp only [aBox, Option.some.injEq, Prod.mk.injEq] at e; obtain ⟨_, rfl⟩ := e; exact grow_new hw _)

theorem aBuiltin_grow (hw : h.wlim ≤ h.next) {b : Builtin} {ts : Array TypeId} {ty : TypeId} {args : List Value} {v : Value} (e : aBuiltin P h b ts ty args = some (v, h')) : Grow h h' := by
  unfold aBuiltin at e
  repeat' split at e
  all_goals first
    | (cases e; done)
    | (have := aAppend_grow hw e; exact this)
    | (have := aCopy_grow e; exact this)
    | (simp only [Option.some.injEq, Prod.mk.injEq] at e; obtain ⟨_, rfl⟩ := e; exact Grow.refl _)

theorem noAddrs_ren : ∀ (l : List Value), noAddrs l = true → l.map (ren φ κ) = l := by
  intro l
  induction l with
  | nil => intro _; rfl
  | cons v r ih =>
    intro e
    simp only [noAddrs, Bool.and_eq_true] at e
    simp [ren_noAddr _ _ _ e.1, ih e.2]

theorem aBuiltin_sound (R : Rel w0 φ κ h w) {b : Builtin} {ts : Array TypeId} {ty : TypeId} {consts : Array Bool} {args : List Value} {v : Value} (e : aBuiltin P h b ts ty args = some (v, h')) (o : ∀ x ∈ args, okV h.N κ x) :
    Sound w0 φ κ h h' v ((Go.builtin b ts ty consts (args.map (ren φ κ)).toArray).run P w) := by
  unfold aBuiltin at e
  split at e
  · rename_i a n c
    split at e
    · rename_i t ht
      split at e
      · rename_i el hu
        simp only [Option.some.injEq, Prod.mk.injEq] at e
        obtain ⟨rfl, rfl⟩ := e
        refine sound_same R (run_v ?_) (by simp [okV])
        have hx : ∃ a' c', ren φ κ (.slice a n c) = .slice a' n c' := ren_sl _ _ _
        obtain ⟨a', c', hx⟩ := hx
        simp only [List.map_cons, List.map_nil, hx]
        unfold Builtin.len_
        simp only [ht, List.getElem?_toArray, List.getElem?_cons_zero, Sem.run_bind, run_underlying hu, Result.andThen_ok, Sem.run_pure]
        rfl
      · cases e
    · cases e
  · rename_i r
    split at e
    · rename_i t ht
      split at e
      · rename_i kt el es cl hu g
        simp only [Option.some.injEq, Prod.mk.injEq] at e
        obtain ⟨rfl, rfl⟩ := e
        refine sound_same R (run_v ?_) (by simp [okV])
        obtain ⟨m1, m2, m3⟩ := R.ent r _ g
        simp only [List.map_cons, List.map_nil, ren]
        unfold Builtin.len_
        simp only [ht, List.getElem?_toArray, List.getElem?_cons_zero, Sem.run_bind, run_underlying hu, Result.andThen_ok]
        simp [getObj, Sem.run, m2, goInt]
      · cases e
    · cases e
  · split at e
    · rename_i hn
      split at e
      · rename_i u hu
        split at e
        · rename_i hnu
          simp only [Option.some.injEq, Prod.mk.injEq] at e
          obtain ⟨rfl, rfl⟩ := e
          refine sound_same R (run_v ?_) (ok_noAddr _ _ _ hnu)
          rw [noAddrs_ren _ hn, ren_noAddr _ _ _ hnu]
          exact pureRun_run hu
        · cases e
      · cases e
    · cases e
  · rename_i a n c
    split at e
    · rename_i t ht
      split at e
      · rename_i el hu
        split at e
        · rename_i hc
          simp only [Option.some.injEq, Prod.mk.injEq] at e
          obtain ⟨rfl, rfl⟩ := e
          refine sound_same R (run_v ?_) (by simp [okV])
          have hx : ∃ a', ren φ κ (.slice a n c) = .slice a' n c := by
            cases a with
            | none => exact ⟨none, by simp only [ren]⟩
            | some a => exact ⟨_, by rw [ren_slice (o _ (by simp)), if_pos hc]⟩
          obtain ⟨a', hx⟩ := hx
          simp only [List.map_cons, List.map_nil, hx]
          unfold Builtin.cap_
          simp [ht, run_underlying hu, ren, goInt]
        · cases e
      · cases e
    · cases e
  · split at e
    · rename_i hn
      split at e
      · rename_i u hu
        split at e
        · rename_i hnu
          simp only [Option.some.injEq, Prod.mk.injEq] at e
          obtain ⟨rfl, rfl⟩ := e
          refine sound_same R (run_v ?_) (ok_noAddr _ _ _ hnu)
          rw [noAddrs_ren _ hn, ren_noAddr _ _ _ hnu]
          exact pureRun_run hu
        · cases e
      · cases e
    · cases e
  · split at e
    · rename_i hn
      split at e
      · rename_i u hu
        split at e
        · rename_i hnu
          simp only [Option.some.injEq, Prod.mk.injEq] at e
          obtain ⟨rfl, rfl⟩ := e
          refine sound_same R (run_v ?_) (ok_noAddr _ _ _ hnu)
          rw [noAddrs_ren _ hn, ren_noAddr _ _ _ hnu]
          exact pureRun_run hu
        · cases e
      · cases e
    · cases e
  · obtain ⟨φ', κ', w', h1, h2, h3⟩ := aAppend_sound (P := P) (ty := ty) R e (o _ (by simp))
    exact ⟨φ', κ', w', leaves_value (run_v h1), h2, h3⟩
  · obtain ⟨φ', κ', w', h1, h2, h3⟩ := aCopy_sound (P := P) (ty := ty) R e (o _ (by simp))
    exact ⟨φ', κ', w', leaves_value (run_v h1), h2, h3⟩
  · cases e
end
end Go.Vm

/- VmJ: A machine for closed runs, tenth part: frames, one step, a row of steps. -/
namespace Go.Vm
open Go Go.RowKit

structure CallF where
  fn : Nat → List Value → AH → Option (Value × AH)
  yld : Nat → List Value → AH → Option (Value × AH)
/- calls as a relation: what contracts say -/
structure CallR where
  fn : Nat → List Value → AH → Value → AH → Prop
  yld : Nat → List Value → AH → Value → AH → Prop
def CallF.rel (c : CallF) : CallR := ⟨fun f args h v h' => c.fn f args h = some (v, h'), fun k args h v h' => c.yld k args h = some (v, h')⟩

/- the fence of an activation: as wide as can be; of a round of a loop, that round's -/
def fen : Option Nat → Fence
  | none => Fence.wide
  | some l => Fence.wide.inRound l

def aEnv (t : Tr Value) : Env
  | .tmp i => t.get i
  | .const v => if noAddr v then some v else none
  | .global _ => none
  | .func f => some (.func (.func f) #[] #[])

def aStep (P : Program) (call : CallF) (h : AH) (ρ : Env) (o : Oper) : Option (Value × AH) :=
  match o.op with
  | .call c =>
    match aArgs ρ c.args.toList with
    | some args =>
      match c.callee with
      | .value f => match ρ f with
        | some (.func (.func fid) first captured) => call.fn fid (first.toList ++ args ++ captured.toList) h
        | some (.func (.yield k) first _) => if h.sees k then call.yld k (first.toList ++ args) h else none
        | _ => none
      | .builtin b => aBuiltin P h b c.argTypes o.type args
      | .invoke _ _ => none
    | none => none
  | op => aOp P h ρ op

/- one step, calls being a relation -/
def rStep (P : Program) (C : CallR) (h : AH) (ρ : Env) (o : Oper) (v : Value) (h' : AH) : Prop :=
  match o.op with
  | .call c =>
    match aArgs ρ c.args.toList with
    | some args =>
      match c.callee with
      | .value f => match ρ f with
        | some (.func (.func fid) first captured) => C.fn fid (first.toList ++ args ++ captured.toList) h v h'
        | some (.func (.yield k) first _) => h.sees k = true ∧ C.yld k (first.toList ++ args) h v h'
        | _ => False
      | .builtin b => aBuiltin P h b c.argTypes o.type args = some (v, h')
      | .invoke _ _ => False
    | none => False
  | op => aOp P h ρ op = some (v, h')
theorem rStep_of {P : Program} {call : CallF} {h h' : AH} {ρ : Env} {o : Oper} {v : Value} (e : aStep P call h ρ o = some (v, h')) : rStep P call.rel h ρ o v h' := by
  unfold aStep at e
  unfold rStep
  split at e
  · split at e
    · split at e
      · split at e
        · exact e
        · split at e
          · exact ⟨by assumption, e⟩
          · cases e
        · cases e
      · exact e
      · cases e
    · cases e
  · exact e

/- what a call is good for -/
structure CallOk (P : Program) (call : CallR) : Prop where
  grow : ∀ f args h v h', h.wlim ≤ h.next → call.fn f args h v h' → Grow h h'
  body : ∀ f args h v h', call.fn f args h v h' → ∃ fn c, P.funcs[f]? = some fn ∧ fn.body = some c
  run : ∀ f args h v h', call.fn f args h v h' → ∀ w0 φ κ w, Rel w0 φ κ h w → (∀ x ∈ args, okV h.N κ x) →
    Calls P f (args.map (ren φ κ)).toArray w fun e w' => ∃ φ' κ', e = .returned (ren φ' κ' v) ∧ Step w0 φ κ h φ' κ' h' w' ∧ okV h'.N κ' v
  growY : ∀ k args h v h', h.wlim ≤ h.next → call.yld k args h v h' → Grow h h'
  runY : ∀ k args h v h', call.yld k args h v h' → ∀ w0 φ κ w, Rel w0 φ κ h w → (∀ x ∈ args, okV h.N κ x) →
    ∃ f tmps assign body, (Instr.yield (φ k).1 (args.map (ren φ κ)).toArray).run P w = .ok (.round (φ k).1 f tmps assign body) w ∧
      RoundIn Fence.wide 0 P (φ k).1 f tmps assign body w fun e w' => ∃ φ' κ', e = .returned (ren φ' κ' v) ∧ Step w0 φ κ h φ' κ' h' w' ∧ okV h'.N κ' v

def namesOk (P : Program) : Bool := P.funcs.toList.all fun f => f.name != "runtime.NumGoroutine"

structure ARel (φ : Nat → Nat × Nat) (κ : Nat → Nat) (N : Nat → Prop) (nt : Nat) (t : Tr Value) (ds : List Deferred) (a : Act) : Prop where
  defers : a.defers = ds
  size : a.tmps.size = nt
  get : ∀ d v, t.get d = some v → a.tmps[d]? = some (ren φ κ v)
  ok : ∀ d v, t.get d = some v → okV N κ v

/- a value laid into a slot -/
def aPut (nt : Nat) (t : Tr Value) : Option Tmp → Value → Option (Tr Value)
  | none, _ => some t
  | some d, v => if d < nt then some (t.put d (some v)) else none

def aWant (ops : Array Oper) (t : Tr Value) (o : Oper) : Option Bool :=
  match o.guard with
  | none => some true
  | some (j, want) =>
    match (ops[j]?).bind (·.dst) with
    | some d => match t.get d with
      | some (.bool b) => some (b == want)
      | some _ => some false
      | none => none
    | none => some false

def aRow (P : Program) (call : CallF) (nt : Nat) (ops : Array Oper) : List Oper → Tr Value → AH → Option (Tr Value × AH)
  | [], t, h => some (t, h)
  | o :: r, t, h =>
    match aWant ops t o with
    | some true =>
      match aStep P call h (aEnv t) o with
      | some (v, h') => match aPut nt t o.dst v with
        | some t' => aRow P call nt ops r t' h'
        | none => none
      | none => none
    | some false => match aPut nt t o.dst undef with
      | some t' => aRow P call nt ops r t' h
      | none => none
    | none => none

section
variable {P : Program} {w0 w w' : World} {φ φ' : Nat → Nat × Nat} {κ κ' : Nat → Nat} {h h' h'' : AH} {ρ : Env} {ev : Operand → Value} {nt : Nat} {t t' : Tr Value} {a a' : Act} {call : CallR} {ds : List Deferred} {rd : Option Nat}

theorem ren_undef : ren φ κ undef = undef := rfl
theorem ok_undef {N : Nat → Prop} : okV N κ undef := by simp [undef, okV, okA, okL]

theorem ARel.env {N : Nat → Prop} (A : ARel φ κ N nt t ds a) : ERel φ κ N (aEnv t) a.eval := by
  intro x v e
  cases x with
  | tmp i =>
    simp only [aEnv] at e
    refine ⟨?_, A.ok i v e⟩
    simp only [Act.eval]
    rw [Array.getD_eq_getD_getElem?, A.get i v e]; rfl
  | const u =>
    simp only [aEnv] at e
    split at e
    · rename_i hn
      injection e with e
      subst e
      exact ⟨(ren_noAddr _ _ _ hn).symm, ok_noAddr _ _ _ hn⟩
    · cases e
  | global g => cases e
  | func f =>
    simp only [aEnv, Option.some.injEq] at e
    subst e
    exact ⟨rfl, by simp [okV, okF, okA, okL]⟩

theorem ARel.step (A : ARel φ κ h.N nt t ds a) (S : Step w0 φ κ h φ' κ' h' w') : ARel φ' κ' h'.N nt t ds a :=
  ⟨A.defers, A.size, fun d v hd => by rw [A.get d v hd, S.ren (A.ok d v hd)], fun d v hd => S.ok (A.ok d v hd)⟩

theorem ARel.put {N : Nat → Prop} (A : ARel φ κ N nt t ds a) {dst : Option Tmp} {v : Value} (e : aPut nt t dst v = some t') (o : okV N κ v) : ARel φ κ N nt t' ds (a.put dst (ren φ κ v)) := by
  cases dst with
  | none => simp only [aPut, Option.some.injEq] at e; subst e; exact A
  | some d =>
    simp only [aPut] at e
    split at e
    · rename_i hd
      injection e with e
      subst e
      refine ⟨A.defers, by simp [Act.put, A.size], fun i u hi => ?_, fun i u hi => ?_⟩
      · simp only [Act.put]
        rw [Tr.get_put] at hi
        by_cases e : i = d
        · subst e
          rw [if_pos rfl] at hi
          injection hi with hi
          subst hi
          rw [Array.getElem?_setIfInBounds_self_of_lt (by rw [A.size]; exact hd)]
        · rw [if_neg e] at hi
          rw [Array.getElem?_setIfInBounds_ne (fun x => e x.symm)]
          exact A.get i u hi
      · rw [Tr.get_put] at hi
        by_cases e : i = d
        · rw [if_pos e] at hi
          injection hi with hi
          subst hi
          exact o
        · rw [if_neg e] at hi; exact A.ok i u hi
    · cases e

theorem want_of {ops : Array Oper} {o : Oper} {b : Bool} {tmps : Array Value} (e : aWant ops t o = some b) (hg : ∀ d v, t.get d = some v → tmps[d]? = some (ren φ κ v)) : Region.wanted o (yielded ops tmps) = b := by
  unfold Region.wanted
  unfold aWant at e
  cases hgd : o.guard with
  | none => rw [hgd] at e; simp only [Option.some.injEq] at e; exact e
  | some g =>
    obtain ⟨j, want⟩ := g
    rw [hgd] at e
    simp only [yielded]
    simp only at e
    cases hd : (ops[j]?).bind (·.dst) with
    | none => rw [hd] at e; simp only [Option.some.injEq] at e; exact e
    | some d =>
      rw [hd] at e
      simp only [Option.bind_some]
      simp only at e
      cases hv : t.get d with
      | none => rw [hv] at e; cases e
      | some v =>
        rw [hg d v hv]
        rw [hv] at e
        cases v with
        | bool c => simp only [Option.some.injEq] at e; rw [← e]; cases c <;> cases want <;> rfl
        | pointer x => simp only [Option.some.injEq] at e; rw [← e]; cases x <;> rfl
        | slice x n c =>
          simp only [Option.some.injEq] at e; rw [← e]
          obtain ⟨x2, c2, e2⟩ := ren_sl (φ := φ) (κ := κ) x n c
          rw [e2]; rfl
        | map x => simp only [Option.some.injEq] at e; rw [← e]; cases x <;> rfl
        | _ => simp only [Option.some.injEq] at e; rw [← e]; rfl
theorem ARel.want {N : Nat → Prop} (A : ARel φ κ N nt t ds a) {ops : Array Oper} {o : Oper} {b : Bool} (e : aWant ops t o = some b) : Region.wanted o (yielded ops a.tmps) = b := want_of e A.get

/- the run of an operation that calls -/
theorem execOp_call {o : Oper} {c : Call} (ho : o.op = .call c) : execOp ev o = (do let d ← resolve ev c o.type; invoke d.target d.args) := by
  unfold execOp; rw [ho]

theorem callFunc_run (hnm : namesOk P = true) {f : FuncId} {fn : Func} {c : Code} (hf : P.funcs[f]? = some fn) (hb : fn.body = some c) (args : Array Value) (w : World) : (callFunc f args).run P w = .ok (.enter f args) w := by
  have hne : (fn.name == "runtime.NumGoroutine") = false := by
    have := List.all_eq_true.1 hnm fn (by
      obtain ⟨hlt, e⟩ := Array.getElem?_eq_some_iff.1 hf
      rw [← e]
      simp)
    simpa using this
  unfold callFunc
  simp only [program, Sem.run_bind, Sem.run, Result.andThen_ok, hf, hne, hb]
  rfl

theorem rStep_grow (C : CallOk P call) (hw : h.wlim ≤ h.next) {o : Oper} {v : Value} (e : rStep P call h ρ o v h') : Grow h h' := by
  unfold rStep at e
  split at e
  · split at e
    · split at e
      · split at e
        · exact C.grow _ _ _ _ _ hw e
        · exact C.growY _ _ _ _ _ hw e.2
        · cases e
      · exact aBuiltin_grow hw e
      · cases e
    · cases e
  · exact aOp_grow hw e
theorem aStep_grow {call : CallF} (C : CallOk P call.rel) (hw : h.wlim ≤ h.next) {o : Oper} {v : Value} (e : aStep P call h ρ o = some (v, h')) : Grow h h' := rStep_grow C hw (rStep_of e)

theorem calls_fen {f : FuncId} {args : Array Value} {R : Ending → World → Prop} (n : Nat) (rd : Option Nat) (hc : Calls P f args w R) : CallsIn (fen rd) n P f args w R := by
  cases rd with
  | none => exact callsIn_wide.2 hc
  | some l => exact (callsIn_wide.2 hc).inRound l
theorem round_fen {l : Nat} {f : FuncId} {tmps : Array Value} {x y : Code} {R : Ending → World → Prop} {n : Nat} (rd : Option Nat) (hc : RoundIn Fence.wide n P l f tmps x y w R) : RoundIn (fen rd) n P l f tmps x y w R := by
  cases rd with
  | none => exact hc
  | some l' => exact hc
theorem fen_fn (rd : Option Nat) (f : FuncId) : (fen rd).fn f := by cases rd <;> trivial
theorem fen_depth (rd : Option Nat) : (fen rd).depth = none := by cases rd <;> rfl

theorem upon_leaves {F : Fence} {n : Nat} {r : Result Next} {v : Value} (hl : Leaves r v w') {o : Oper} {next : Act → World → Prop} {Q : Exit → Act → World → Prop} (hn : next (a.put o.dst v) w') : o.uponIn F n P a next Q r := by
  rcases hl with rfl | ⟨rfl, rfl⟩
  · exact hn
  · exact hn

theorem rStep_sound (hnm : namesOk P = true) (C : CallOk P call) (R : Rel w0 φ κ h w) (E : ERel φ κ h.N ρ a.eval) {o : Oper} {v : Value} (e : rStep P call h ρ o v h') {next : Act → World → Prop} {Q : Exit → Act → World → Prop}
    (hn : ∀ φ' κ' w', Step w0 φ κ h φ' κ' h' w' → okV h'.N κ' v → next (a.put o.dst (ren φ' κ' v)) w') : o.wpIn (fen rd) 0 P a w next Q := by
  have hnd : ∀ c, o.op ≠ .defer c := by
    intro c hc
    unfold rStep at e
    rw [hc] at e
    simp [aOp] at e
  refine ⟨fun f _ => fen_fn rd f, ?_⟩
  rw [Oper.semAt_eq _ _ _ hnd]
  have prim : Sound w0 φ κ h h' v ((execOp a.eval o).run P w) → o.uponIn (fen rd) 0 P a next Q ((execOp a.eval o).run P w) := by
    rintro ⟨φ', κ', w', h1, h2, h3⟩
    exact upon_leaves h1 (hn φ' κ' w' h2 h3)
  unfold rStep at e
  split at e
  · rename_i c ho
    split at e
    · rename_i args ha
      obtain ⟨a1, a2⟩ := aArgs_sound E _ _ ha
      have ha' : c.args.map a.eval = (args.map (ren φ κ)).toArray := by apply Array.ext'; simpa using a1
      split at e
      · rename_i f hcal
        split at e
        · rename_i fid first captured hf
          obtain ⟨f1, f2⟩ := E f _ hf
          obtain ⟨fn, body, hfn, hbody⟩ := C.body _ _ _ _ _ e
          rw [execOp_call ho]
          have hres : (resolve a.eval c o.type).run P w = .ok { target := .fn (.func fid) (renA φ κ captured), args := renA φ κ first ++ (args.map (ren φ κ)).toArray } w := by
            unfold resolve
            rw [ha', hcal]
            simp only [f1, ren, renF, Deferred.ofValue]
            rfl
          rw [Sem.run_bind, hres]
          simp only [Result.andThen_ok, invoke]
          rw [callFunc_run hnm hfn hbody, Oper.uponIn_enter]
          refine ⟨fun hd => (by rw [fen_depth] at hd; cases hd), ?_⟩
          have hargs : renA φ κ first ++ (args.map (ren φ κ)).toArray ++ renA φ κ captured = ((first.toList ++ args ++ captured.toList).map (ren φ κ)).toArray := by
            rw [renA_map, renA_map]
            apply Array.ext'
            simp
          rw [hargs]
          refine calls_fen _ rd ((C.run _ _ _ _ _ e w0 φ κ w R ?_).mono ?_)
          · intro x hx
            simp only [okV] at f2
            rcases List.mem_append.1 hx with hx | hx
            · rcases List.mem_append.1 hx with hx | hx
              · exact okA_iff.1 f2.2.1 x hx
              · exact a2 x hx
            · exact okA_iff.1 f2.2.2 x hx
          · rintro en w' ⟨φ', κ', rfl, h2, h3⟩
            exact hn φ' κ' w' h2 h3
        · rename_i k first captured hf
          · obtain ⟨f1, f2⟩ := E f _ hf
            replace e := e.2
            rw [execOp_call ho]
            have hres : (resolve a.eval c o.type).run P w = .ok { target := .fn (.yield (φ k).1) (renA φ κ captured), args := renA φ κ first ++ (args.map (ren φ κ)).toArray } w := by
              unfold resolve
              rw [ha', hcal]
              simp only [f1, ren, renF, Deferred.ofValue]
              rfl
            rw [Sem.run_bind, hres]
            simp only [Result.andThen_ok, invoke]
            have hargs : renA φ κ first ++ (args.map (ren φ κ)).toArray = ((first.toList ++ args).map (ren φ κ)).toArray := by
              rw [renA_map]
              apply Array.ext'
              simp
            rw [hargs]
            obtain ⟨fu, tmps, x, y, hy, hround⟩ := C.runY _ _ _ _ _ e w0 φ κ w R (by
              intro x hx
              simp only [okV] at f2
              rcases List.mem_append.1 hx with hx | hx
              · exact okA_iff.1 f2.2.1 x hx
              · exact a2 x hx)
            rw [hy, Oper.uponIn_round]
            refine ⟨fun hd => (by rw [fen_depth] at hd; cases hd), round_fen rd (hround.mono ?_)⟩
            rintro en w' ⟨φ', κ', rfl, h2, h3⟩
            exact hn φ' κ' w' h2 h3
        · cases e
      · rename_i b hcal
        refine prim ?_
        rw [execOp_call ho]
        have hres : (resolve a.eval c o.type).run P w = .ok { target := .builtin b c.argTypes o.type (c.args.map fun | .const _ => true | _ => false), args := (args.map (ren φ κ)).toArray } w := by
          unfold resolve
          rw [ha', hcal]
          rfl
        rw [Sem.run_bind, hres]
        simp only [Result.andThen_ok, invoke]
        exact aBuiltin_sound R e a2
      · cases e
    · cases e
  · exact prim (aOp_sound R E e)

theorem aRow_grow {call : CallF} (C : CallOk P call.rel) {ops : Array Oper} : ∀ (l : List Oper) (t : Tr Value) (h : AH), h.wlim ≤ h.next → ∀ t' h', aRow P call nt ops l t h = some (t', h') → Grow h h' := by
  intro l
  induction l with
  | nil => intro t h _ t' h' e; simp only [aRow, Option.some.injEq, Prod.mk.injEq] at e; obtain ⟨_, rfl⟩ := e; exact Grow.refl _
  | cons o r ih =>
    intro t h hw t' h' e
    simp only [aRow] at e
    split at e
    · split at e
      · rename_i v h1 hs
        have g1 := aStep_grow C hw hs
        split at e
        · exact g1.trans (ih _ _ (g1.wl hw) _ _ e)
        · cases e
      · cases e
    · split at e
      · exact ih _ _ hw _ _ e
      · cases e
    · cases e

theorem aRow_sound {call : CallF} (hnm : namesOk P = true) (C : CallOk P call.rel) {ops : Array Oper} {Q : Exit → Act → World → Prop} : ∀ (l : List Oper) (t : Tr Value) (h : AH) (t' : Tr Value) (h' : AH), aRow P call nt ops l t h = some (t', h') →
    ∀ w0 φ κ w a, Rel w0 φ κ h w → ARel φ κ h.N nt t ds a → (∀ φ' κ' w' a', Step w0 φ κ h φ' κ' h' w' → ARel φ' κ' h'.N nt t' ds a' → Q .normal a' w') → wpListIn (fen rd) 0 P ops Q l a w := by
  intro l
  induction l with
  | nil =>
    intro t h t' h' e w0 φ κ w a R A hq
    simp only [aRow, Option.some.injEq, Prod.mk.injEq] at e
    obtain ⟨rfl, rfl⟩ := e
    exact hq φ κ w a R.step A
  | cons o r ih =>
    intro t h t' h' e w0 φ κ w a R A hq
    simp only [aRow] at e
    unfold wpListIn
    split at e
    · rename_i hwant
      rw [A.want hwant, if_pos rfl]
      split at e
      · rename_i v h1 hs
        split at e
        · rename_i t1 hp
          refine rStep_sound hnm C R A.env (rStep_of hs) fun φ1 κ1 w1 S1 o1 => ?_
          exact ih _ _ _ _ e w0 φ1 κ1 w1 _ S1.rel ((A.step S1).put hp o1) fun φ' κ' w' a' S A' => hq φ' κ' w' a' (S1.trans S) A'
        · cases e
      · cases e
    · rename_i hwant
      rw [A.want hwant, if_neg (by simp)]
      split at e
      · rename_i t1 hp
        have := A.put hp (ok_undef (κ := κ))
        rw [ren_undef] at this
        exact ⟨fun f _ => fen_fn rd f, ih _ _ _ _ e w0 φ κ w _ R this hq⟩
      · cases e
    · cases e
end
end Go.Vm

