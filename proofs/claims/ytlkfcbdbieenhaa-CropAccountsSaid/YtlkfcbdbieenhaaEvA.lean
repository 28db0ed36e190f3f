/-
  A machine for closed runs, first part: tries, names, values under a renaming.
-/
import Derived.Calls
import Derived.Orders
import Derived.LoopN
import Derived.Below
namespace Go.Ev
open Go Go.RowKit

inductive Tr (α : Type) where
  | leaf
  | node (l : Tr α) (v : Option α) (r : Tr α)

def Tr.get {α : Type} : Tr α → Nat → Option α
  | .leaf, _ => none
  | .node l v r, n => if n = 0 then v else if n % 2 = 1 then l.get (n / 2) else r.get (n / 2 - 1)

def Tr.set {α : Type} : Nat → Tr α → Nat → Option α → Tr α
  | 0, t, _, _ => t
  | f + 1, .leaf, n, x => if n = 0 then .node .leaf x .leaf else if n % 2 = 1 then .node (Tr.set f .leaf (n / 2) x) none .leaf else .node .leaf none (Tr.set f .leaf (n / 2 - 1) x)
  | f + 1, .node l v r, n, x => if n = 0 then .node l x r else if n % 2 = 1 then .node (Tr.set f l (n / 2) x) v r else .node l v (Tr.set f r (n / 2 - 1) x)

theorem Tr.get_leaf {α : Type} (n : Nat) : (Tr.leaf : Tr α).get n = none := rfl

theorem Tr.get_set {α : Type} (f : Nat) : ∀ (t : Tr α) (n m : Nat) (x : Option α), n < f → (Tr.set f t n x).get m = if m = n then x else t.get m := by
  induction f with
  | zero => intro t n m x h; omega
  | succ f ih =>
    intro t n m x h
    cases t with
    | leaf =>
      simp only [Tr.set]
      by_cases hn : n = 0
      · subst hn
        by_cases hm : m = 0
        · simp [Tr.get, hm]
        · simp [Tr.get, hm]
      · simp only [hn, if_false]
        by_cases hp : n % 2 = 1
        · simp only [hp, if_true, Tr.get]
          by_cases hm : m = 0
          · subst hm; rw [if_pos rfl, if_neg (by omega)]
          · rw [if_neg hm]
            by_cases hq : m % 2 = 1
            · rw [if_pos hq, ih _ _ _ _ (by omega)]
              by_cases e : m / 2 = n / 2
              · rw [if_pos e, if_pos (by omega)]
              · rw [if_neg e, if_neg (by omega)]; rfl
            · rw [if_neg hq, if_neg (by omega)]
        · simp only [hp, if_false, Tr.get]
          by_cases hm : m = 0
          · subst hm; rw [if_pos rfl, if_neg (by omega)]
          · rw [if_neg hm]
            by_cases hq : m % 2 = 1
            · rw [if_pos hq, if_neg (by omega)]
            · rw [if_neg hq, ih _ _ _ _ (by omega)]
              by_cases e : m / 2 - 1 = n / 2 - 1
              · rw [if_pos e, if_pos (by omega)]
              · rw [if_neg e, if_neg (by omega)]; rfl
    | node l v r =>
      simp only [Tr.set]
      by_cases hn : n = 0
      · subst hn
        by_cases hm : m = 0
        · simp [Tr.get, hm]
        · simp [Tr.get, hm]
      · simp only [hn, if_false]
        by_cases hp : n % 2 = 1
        · simp only [hp, if_true, Tr.get]
          by_cases hm : m = 0
          · subst hm; rw [if_pos rfl, if_neg (by omega), if_pos rfl]
          · rw [if_neg hm]
            by_cases hq : m % 2 = 1
            · rw [if_pos hq, ih _ _ _ _ (by omega)]
              by_cases e : m / 2 = n / 2
              · rw [if_pos e, if_pos (by omega)]
              · rw [if_neg e, if_neg (by omega), if_neg hm, if_pos hq]
            · rw [if_neg hq, if_neg (by omega), if_neg hm, if_neg hq]
        · simp only [hp, if_false, Tr.get]
          by_cases hm : m = 0
          · subst hm; rw [if_pos rfl, if_neg (by omega), if_pos rfl]
          · rw [if_neg hm]
            by_cases hq : m % 2 = 1
            · rw [if_pos hq, if_neg (by omega), if_neg hm, if_pos hq]
            · rw [if_neg hq, ih _ _ _ _ (by omega)]
              by_cases e : m / 2 - 1 = n / 2 - 1
              · rw [if_pos e, if_pos (by omega)]
              · rw [if_neg e, if_neg (by omega), if_neg hm, if_neg hq]

def Tr.put {α : Type} (t : Tr α) (n : Nat) (x : Option α) : Tr α := Tr.set (n + 1) t n x
theorem Tr.get_put {α : Type} (t : Tr α) (n m : Nat) (x : Option α) : (t.put n x).get m = if m = n then x else t.get m := Tr.get_set _ _ _ _ _ (Nat.lt_succ_self n)

/- what runs without a look at the world -/
def pureRun {α : Type} (P : Program) : Sem α → Option α
  | .pure a => some a
  | .program k => pureRun P (k P)
  | _ => none

theorem pureRun_run {α : Type} {P : Program} {w : World} : ∀ {s : Sem α} {a : α}, pureRun P s = some a → s.run P w = .ok a w := by
  intro s
  induction s with
  | pure a => intro b h; simp only [pureRun, Option.some.injEq] at h; subst h; rfl
  | program k ih => intro b h; simp only [pureRun] at h; simp only [Sem.run]; exact ih _ h
  | _ => intro b h; simp [pureRun] at h

/- names: φ says which block, and from where on, a name stands for; κ how many elements an open block bears -/
@[irreducible] def openB : Nat := 1267650600228229401496703205376

def renF (φ : Nat → Nat × Nat) : Fn → Fn
  | .yield k => .yield (φ k).1
  | f => f
def okF (N : Nat → Prop) : Fn → Prop
  | .yield k => N k
  | _ => True
def noYield : Fn → Bool
  | .yield _ => false
  | _ => true
theorem renF_no (φ : Nat → Nat × Nat) {f : Fn} (h : noYield f = true) : renF φ f = f := by cases f <;> first | rfl | (simp [noYield] at h)
theorem okF_no (N : Nat → Prop) {f : Fn} (h : noYield f = true) : okF N f := by cases f <;> first | trivial | (simp [noYield] at h)
theorem renF_congr {N : Nat → Prop} {φ φ' : Nat → Nat × Nat} (hc : ∀ k, N k → φ' k = φ k) {f : Fn} (h : okF N f) : renF φ' f = renF φ f := by
  cases f with
  | yield k => simp only [renF, hc k h]
  | _ => rfl
theorem okF_mono {N N' : Nat → Prop} (hn : ∀ k, N k → N' k) {f : Fn} (h : okF N f) : okF N' f := by
  cases f with
  | yield k => exact hn k h
  | _ => trivial

mutual
def ren (φ : Nat → Nat × Nat) (κ : Nat → Nat) : Value → Value
  | .pointer (some a) => .pointer (some ⟨(φ a.block).1, (φ a.block).2 + a.off, a.spot⟩)
  | .slice (some a) n c => .slice (some ⟨(φ a.block).1, (φ a.block).2 + a.off, a.spot⟩) n (if c < openB then c else κ a.block - (c - openB))
  | .map (some r) => .map (some (φ r).1)
  | .func fn first captured => .func (renF φ fn) (renA φ κ first) (renA φ κ captured)
  | .iface t v => .iface t (ren φ κ v)
  | .agg cs => .agg (renA φ κ cs)
  | .tuple vs => .tuple (renA φ κ vs)
  | v => v
def renA (φ : Nat → Nat × Nat) (κ : Nat → Nat) : Array Value → Array Value
  | ⟨l⟩ => ⟨renL φ κ l⟩
def renL (φ : Nat → Nat × Nat) (κ : Nat → Nat) : List Value → List Value
  | [] => []
  | v :: r => ren φ κ v :: renL φ κ r
end

mutual
def okV (N : Nat → Prop) (κ : Nat → Nat) : Value → Prop
  | .pointer (some a) => N a.block
  | .slice (some a) n c => N a.block ∧ (openB ≤ c → (c - openB) + n ≤ κ a.block)
  | .map (some r) => N r
  | .func fn first captured => okF N fn ∧ okA N κ first ∧ okA N κ captured
  | .iface _ v => okV N κ v
  | .agg cs => okA N κ cs
  | .tuple vs => okA N κ vs
  | .chan (some _) => False
  | _ => True
def okA (N : Nat → Prop) (κ : Nat → Nat) : Array Value → Prop
  | ⟨l⟩ => okL N κ l
def okL (N : Nat → Prop) (κ : Nat → Nat) : List Value → Prop
  | [] => True
  | v :: r => okV N κ v ∧ okL N κ r
end

mutual
def noAddr : Value → Bool
  | .pointer (some _) => false
  | .slice (some _) _ _ => false
  | .map (some _) => false
  | .func fn first captured => noYield fn && (noAddrA first && noAddrA captured)
  | .iface _ v => noAddr v
  | .agg cs => noAddrA cs
  | .tuple vs => noAddrA vs
  | .chan (some _) => false
  | _ => true
def noAddrA : Array Value → Bool
  | ⟨l⟩ => noAddrL l
def noAddrL : List Value → Bool
  | [] => true
  | v :: r => noAddr v && noAddrL r
end

theorem renL_map (φ : Nat → Nat × Nat) (κ : Nat → Nat) (l : List Value) : renL φ κ l = l.map (ren φ κ) := by
  induction l with
  | nil => rfl
  | cons v r ih => simp [renL, ih]
theorem renA_map (φ : Nat → Nat × Nat) (κ : Nat → Nat) (a : Array Value) : renA φ κ a = a.map (ren φ κ) := by
  cases a; simp [renA, renL_map]
theorem okL_iff {N : Nat → Prop} {κ : Nat → Nat} {l : List Value} : okL N κ l ↔ ∀ v ∈ l, okV N κ v := by
  induction l with
  | nil => simp [okL]
  | cons v r ih => simp [okL, ih]
theorem okA_iff {N : Nat → Prop} {κ : Nat → Nat} {a : Array Value} : okA N κ a ↔ ∀ v ∈ a.toList, okV N κ v := by
  cases a; simp [okA, okL_iff]

mutual
theorem ren_noAddr (φ : Nat → Nat × Nat) (κ : Nat → Nat) : ∀ (v : Value), noAddr v = true → ren φ κ v = v
  | .pointer none, _ => by simp [ren]
  | .pointer (some _), h => by simp [noAddr] at h
  | .slice none _ _, _ => by simp [ren]
  | .slice (some _) _ _, h => by simp [noAddr] at h
  | .map none, _ => by simp [ren]
  | .map (some _), h => by simp [noAddr] at h
  | .func _ first captured, h => by
    simp only [noAddr, Bool.and_eq_true] at h
    simp only [ren, renF_no φ h.1, renA_noAddr φ κ first h.2.1, renA_noAddr φ κ captured h.2.2]
  | .iface _ v, h => by simp only [noAddr] at h; simp only [ren, ren_noAddr φ κ v h]
  | .agg cs, h => by simp only [noAddr] at h; simp only [ren, renA_noAddr φ κ cs h]
  | .tuple cs, h => by simp only [noAddr] at h; simp only [ren, renA_noAddr φ κ cs h]
  | .chan _, _ => by simp [ren]
  | .bool _, _ => by simp [ren]
  | .int _ _, _ => by simp [ren]
  | .float _ _, _ => by simp [ren]
  | .complex _ _ _, _ => by simp [ren]
  | .string _, _ => by simp [ren]
  | .nilFunc, _ => by simp [ren]
  | .nilIface, _ => by simp [ren]
theorem renA_noAddr (φ : Nat → Nat × Nat) (κ : Nat → Nat) : ∀ (a : Array Value), noAddrA a = true → renA φ κ a = a
  | ⟨l⟩, h => by simp only [noAddrA] at h; simp only [renA, renL_noAddr φ κ l h]
theorem renL_noAddr (φ : Nat → Nat × Nat) (κ : Nat → Nat) : ∀ (l : List Value), noAddrL l = true → renL φ κ l = l
  | [], _ => rfl
  | v :: r, h => by
    simp only [noAddrL, Bool.and_eq_true] at h
    simp only [renL, ren_noAddr φ κ v h.1, renL_noAddr φ κ r h.2]
end

mutual
theorem ok_noAddr (N : Nat → Prop) (κ : Nat → Nat) : ∀ (v : Value), noAddr v = true → okV N κ v
  | .pointer none, _ => by simp [okV]
  | .pointer (some _), h => by simp [noAddr] at h
  | .slice none _ _, _ => by simp [okV]
  | .slice (some _) _ _, h => by simp [noAddr] at h
  | .map none, _ => by simp [okV]
  | .map (some _), h => by simp [noAddr] at h
  | .func _ first captured, h => by
    simp only [noAddr, Bool.and_eq_true] at h
    exact ⟨okF_no N h.1, okA_noAddr N κ first h.2.1, okA_noAddr N κ captured h.2.2⟩
  | .iface _ v, h => by simp only [noAddr] at h; exact ok_noAddr N κ v h
  | .agg cs, h => by simp only [noAddr] at h; exact okA_noAddr N κ cs h
  | .tuple cs, h => by simp only [noAddr] at h; exact okA_noAddr N κ cs h
  | .chan none, _ => by simp [okV]
  | .chan (some _), h => by simp [noAddr] at h
  | .bool _, _ => by simp [okV]
  | .int _ _, _ => by simp [okV]
  | .float _ _, _ => by simp [okV]
  | .complex _ _ _, _ => by simp [okV]
  | .string _, _ => by simp [okV]
  | .nilFunc, _ => by simp [okV]
  | .nilIface, _ => by simp [okV]
theorem okA_noAddr (N : Nat → Prop) (κ : Nat → Nat) : ∀ (a : Array Value), noAddrA a = true → okA N κ a
  | ⟨l⟩, h => by simp only [noAddrA] at h; exact okL_noAddr N κ l h
theorem okL_noAddr (N : Nat → Prop) (κ : Nat → Nat) : ∀ (l : List Value), noAddrL l = true → okL N κ l
  | [], _ => trivial
  | v :: r, h => by
    simp only [noAddrL, Bool.and_eq_true] at h
    exact ⟨ok_noAddr N κ v h.1, okL_noAddr N κ r h.2⟩
end

mutual
theorem ren_congr {N : Nat → Prop} {φ φ' : Nat → Nat × Nat} {κ κ' : Nat → Nat} (hc : ∀ k, N k → φ' k = φ k ∧ κ' k = κ k) : ∀ (v : Value), okV N κ v → ren φ' κ' v = ren φ κ v
  | .pointer none, _ => by simp [ren]
  | .pointer (some a), h => by simp only [okV] at h; simp only [ren, (hc _ h).1]
  | .slice none _ _, _ => by simp [ren]
  | .slice (some a) _ _, h => by simp only [okV] at h; simp only [ren, (hc _ h.1).1, (hc _ h.1).2]
  | .map none, _ => by simp [ren]
  | .map (some r), h => by simp only [okV] at h; simp only [ren, (hc _ h).1]
  | .func _ first captured, h => by
    simp only [okV] at h
    simp only [ren, renF_congr (fun k hk => (hc k hk).1) h.1, renA_congr hc first h.2.1, renA_congr hc captured h.2.2]
  | .iface _ v, h => by simp only [okV] at h; simp only [ren, ren_congr hc v h]
  | .agg cs, h => by simp only [okV] at h; simp only [ren, renA_congr hc cs h]
  | .tuple cs, h => by simp only [okV] at h; simp only [ren, renA_congr hc cs h]
  | .chan _, _ => by simp [ren]
  | .bool _, _ => by simp [ren]
  | .int _ _, _ => by simp [ren]
  | .float _ _, _ => by simp [ren]
  | .complex _ _ _, _ => by simp [ren]
  | .string _, _ => by simp [ren]
  | .nilFunc, _ => by simp [ren]
  | .nilIface, _ => by simp [ren]
theorem renA_congr {N : Nat → Prop} {φ φ' : Nat → Nat × Nat} {κ κ' : Nat → Nat} (hc : ∀ k, N k → φ' k = φ k ∧ κ' k = κ k) : ∀ (a : Array Value), okA N κ a → renA φ' κ' a = renA φ κ a
  | ⟨l⟩, h => by simp only [okA] at h; simp only [renA, renL_congr hc l h]
theorem renL_congr {N : Nat → Prop} {φ φ' : Nat → Nat × Nat} {κ κ' : Nat → Nat} (hc : ∀ k, N k → φ' k = φ k ∧ κ' k = κ k) : ∀ (l : List Value), okL N κ l → renL φ' κ' l = renL φ κ l
  | [], _ => rfl
  | v :: r, h => by
    simp only [okL] at h
    simp only [renL, ren_congr hc v h.1, renL_congr hc r h.2]
end

mutual
theorem ok_mono {N N' : Nat → Prop} {κ κ' : Nat → Nat} (hn : ∀ k, N k → N' k) (hc : ∀ k, N k → κ' k = κ k) : ∀ (v : Value), okV N κ v → okV N' κ' v
  | .pointer none, _ => by simp [okV]
  | .pointer (some a), h => by simp only [okV] at h ⊢; exact hn _ h
  | .slice none _ _, _ => by simp [okV]
  | .slice (some a) _ _, h => by simp only [okV] at h ⊢; exact ⟨hn _ h.1, fun e => by rw [hc _ h.1]; exact h.2 e⟩
  | .map none, _ => by simp [okV]
  | .map (some r), h => by simp only [okV] at h ⊢; exact hn _ h
  | .func _ first captured, h => by
    simp only [okV] at h ⊢
    exact ⟨okF_mono hn h.1, okA_mono hn hc first h.2.1, okA_mono hn hc captured h.2.2⟩
  | .iface _ v, h => by simp only [okV] at h ⊢; exact ok_mono hn hc v h
  | .agg cs, h => by simp only [okV] at h ⊢; exact okA_mono hn hc cs h
  | .tuple cs, h => by simp only [okV] at h ⊢; exact okA_mono hn hc cs h
  | .chan none, _ => by simp [okV]
  | .chan (some _), h => by simp [okV] at h
  | .bool _, _ => by simp [okV]
  | .int _ _, _ => by simp [okV]
  | .float _ _, _ => by simp [okV]
  | .complex _ _ _, _ => by simp [okV]
  | .string _, _ => by simp [okV]
  | .nilFunc, _ => by simp [okV]
  | .nilIface, _ => by simp [okV]
theorem okA_mono {N N' : Nat → Prop} {κ κ' : Nat → Nat} (hn : ∀ k, N k → N' k) (hc : ∀ k, N k → κ' k = κ k) : ∀ (a : Array Value), okA N κ a → okA N' κ' a
  | ⟨l⟩, h => by simp only [okA] at h ⊢; exact okL_mono hn hc l h
theorem okL_mono {N N' : Nat → Prop} {κ κ' : Nat → Nat} (hn : ∀ k, N k → N' k) (hc : ∀ k, N k → κ' k = κ k) : ∀ (l : List Value), okL N κ l → okL N' κ' l
  | [], _ => trivial
  | v :: r, h => by
    simp only [okL] at h ⊢
    exact ⟨ok_mono hn hc v h.1, okL_mono hn hc r h.2⟩
end

theorem ren_cells (φ : Nat → Nat × Nat) (κ : Nat → Nat) (v : Value) : (ren φ κ v).cells = v.cells.map (ren φ κ) := by
  cases v with
  | agg cs => simp [ren, Value.cells, renA_map]
  | pointer a => cases a <;> simp [ren, Value.cells]
  | slice a n c => cases a <;> simp [ren, Value.cells]
  | map a => cases a <;> simp [ren, Value.cells]
  | _ => simp [ren, Value.cells]
theorem ok_cells {N : Nat → Prop} {κ : Nat → Nat} {v : Value} (h : okV N κ v) : ∀ x ∈ v.cells.toList, okV N κ x := by
  cases v with
  | agg cs => simp only [okV] at h; simpa [Value.cells] using okA_iff.1 h
  | _ => simp [Value.cells]; exact h

/- a value that one cell can hold -/
def flat : Value → Bool
  | .agg _ | .tuple _ => false
  | _ => true
theorem flat_ren (φ : Nat → Nat × Nat) (κ : Nat → Nat) (v : Value) : flat (ren φ κ v) = flat v := by
  cases v with
  | pointer a => cases a <;> simp [ren, flat]
  | slice a n c => cases a <;> simp [ren, flat]
  | map a => cases a <;> simp [ren, flat]
  | _ => simp [ren, flat]
end Go.Ev
