/-
  Walks on memory by names: the machine (Mc).
-/
import Derived.Test.YthoigkgjidcklaaMb
import Derived.IntWalk
set_option linter.unusedSimpArgs false
set_option linter.unusedVariables false
/- VmT: A machine for closed runs, twentieth part: other names for the same state. -/
namespace Go.Vm
open Go Go.RowKit

def mvF (σ : Nat → Nat) : Fn → Fn
  | .yield k => .yield (σ k)
  | f => f

/-- What is said of a new name: nothing; it bears room C; it stands for a slice that is nil. -/
inductive Xi where
  | same
  | room (C : Nat)
  | nil
/-- A slice under its old name. -/
def mvS (x : Xi) (a : Addr) (n c : Nat) : Value := match x with
  | .same => .slice (some a) n c
  | .room C => .slice (some a) n (if c < openB then c else C - (c - openB))
  | .nil => .slice none n 0
def okS (x : Xi) (n c : Nat) : Prop := match x with
  | .same => True
  | .room C => openB ≤ c → (c - openB) + n ≤ C ∧ (C = 0 ∨ c - openB < C)
  | .nil => n = 0 ∧ (c = 0 ∨ c = openB)
def okP (x : Xi) : Prop := match x with
  | .nil => False
  | _ => True
def okFB (ξ : Nat → Xi) (B : Nat) : Fn → Prop
  | .yield k => k < B ∧ okP (ξ k)
  | _ => True
def Xi.ok (x : Xi) : Prop := match x with
  | .room C => C < openB
  | _ => True

mutual
/-- New names written as the old ones: σ says which; ξ says which names' rooms are known of old. -/
def mv (σ : Nat → Nat) (ξ : Nat → Xi) : Value → Value
  | .pointer (some a) => .pointer (some ⟨σ a.block, a.off, a.spot⟩)
  | .slice (some a) n c => mvS (ξ a.block) ⟨σ a.block, a.off, a.spot⟩ n c
  | .map (some r) => .map (some (σ r))
  | .func fn first captured => .func (mvF σ fn) (mvA σ ξ first) (mvA σ ξ captured)
  | .iface t v => .iface t (mv σ ξ v)
  | .agg cs => .agg (mvA σ ξ cs)
  | .tuple vs => .tuple (mvA σ ξ vs)
  | v => v
def mvA (σ : Nat → Nat) (ξ : Nat → Xi) : Array Value → Array Value
  | ⟨l⟩ => ⟨mvL σ ξ l⟩
def mvL (σ : Nat → Nat) (ξ : Nat → Xi) : List Value → List Value
  | [] => []
  | v :: r => mv σ ξ v :: mvL σ ξ r
end

mutual
/-- The names of a value lie below B, and its slices within the rooms that are known. -/
def okM (ξ : Nat → Xi) (B : Nat) : Value → Prop
  | .pointer (some a) => a.block < B ∧ okP (ξ a.block)
  | .slice (some a) n c => a.block < B ∧ okS (ξ a.block) n c
  | .map (some r) => r < B ∧ okP (ξ r)
  | .func fn first captured => okFB ξ B fn ∧ okMA ξ B first ∧ okMA ξ B captured
  | .iface _ v => okM ξ B v
  | .agg cs => okMA ξ B cs
  | .tuple vs => okMA ξ B vs
  | .chan (some _) => False
  | _ => True
def okMA (ξ : Nat → Xi) (B : Nat) : Array Value → Prop
  | ⟨l⟩ => okML ξ B l
def okML (ξ : Nat → Xi) (B : Nat) : List Value → Prop
  | [] => True
  | v :: r => okM ξ B v ∧ okML ξ B r
end

theorem mvL_map (σ : Nat → Nat) (ξ : Nat → Xi) (l : List Value) : mvL σ ξ l = l.map (mv σ ξ) := by
  induction l with
  | nil => rfl
  | cons v r ih => simp [mvL, ih]
theorem okML_iff {ξ : Nat → Xi} {B : Nat} {l : List Value} : okML ξ B l ↔ ∀ v ∈ l, okM ξ B v := by
  induction l with
  | nil => simp [okML]
  | cons v r ih => simp [okML, ih]

def phi2 (φ : Nat → Nat × Nat) (σ : Nat → Nat) (ξ : Nat → Xi) : Nat → Nat × Nat := fun k => match ξ k with
  | .nil => (0, 0)
  | _ => φ (σ k)
theorem okP_ne {x : Xi} (h : okP x) : x ≠ .nil := by
  cases x with
  | nil => exact h.elim
  | same => intro e; cases e
  | room C => intro e; cases e
theorem phi2_eq {φ : Nat → Nat × Nat} {σ : Nat → Nat} {ξ : Nat → Xi} {k : Nat} (h : ξ k ≠ .nil) : phi2 φ σ ξ k = φ (σ k) := by
  unfold phi2
  split
  · rename_i hx; exact absurd hx h
  · rfl
def kap2 (κ : Nat → Nat) (σ : Nat → Nat) (ξ : Nat → Xi) : Nat → Nat := fun k => match ξ k with
  | .room C => if κ (σ k) = 0 then 0 else C + 1
  | .nil => 0
  | .same => κ (σ k)

section
variable {φ : Nat → Nat × Nat} {κ : Nat → Nat} {σ : Nat → Nat} {ξ : Nat → Xi}

mutual
theorem ren_mv {B : Nat} (hC : ∀ k, (ξ k).ok) : ∀ (v : Value), okM ξ B v → ren φ κ (mv σ ξ v) = ren (phi2 φ σ ξ) (kap2 κ σ ξ) v
  | .pointer none, _ => rfl
  | .pointer (some a), m => by
    simp only [okM] at m
    simp only [mv, ren, phi2_eq (okP_ne m.2)]
  | .slice none _ _, _ => rfl
  | .slice (some a) n c, _ => by
    have hC := hC a.block
    simp only [mv, ren, phi2]
    unfold kap2
    cases hx : ξ a.block with
    | same => rfl
    | nil => simp only [mvS, ren, if_true, dec_0]
    | room C =>
      rw [hx] at hC
      have hC : C < openB := hC
      simp only [mvS, ren]
      by_cases hk : κ (σ a.block) = 0
      · rw [if_pos hk, if_pos hk, if_pos rfl]
      · rw [if_neg hk, if_neg hk, if_neg (Nat.succ_ne_zero _)]
        congr 1
        by_cases hc : c < openB
        · simp only [hc, if_true]
        · simp only [hc, if_false]
          rw [if_pos (by omega), Nat.add_sub_cancel]
  | .map none, _ => rfl
  | .map (some r), m => by
    simp only [okM] at m
    simp only [mv, ren, phi2_eq (okP_ne m.2)]
  | .func fn first captured, m => by
    simp only [okM] at m
    simp only [mv, ren, renA_mv hC first m.2.1, renA_mv hC captured m.2.2]
    congr 1
    cases fn with
    | yield k => simp only [mvF, renF, phi2_eq (okP_ne m.1.2)]
    | _ => rfl
  | .iface _ v, m => by simp only [okM] at m; simp only [mv, ren, ren_mv hC v m]
  | .agg cs, m => by simp only [okM] at m; simp only [mv, ren, renA_mv hC cs m]
  | .tuple cs, m => by simp only [okM] at m; simp only [mv, ren, renA_mv hC cs m]
  | .chan _, _ => by simp [mv, ren]
  | .bool _, _ => by simp [mv, ren]
  | .int _ _, _ => by simp [mv, ren]
  | .float _ _, _ => by simp [mv, ren]
  | .complex _ _ _, _ => by simp [mv, ren]
  | .string _, _ => by simp [mv, ren]
  | .nilFunc, _ => by simp [mv, ren]
  | .nilIface, _ => by simp [mv, ren]
theorem renA_mv {B : Nat} (hC : ∀ k, (ξ k).ok) : ∀ (a : Array Value), okMA ξ B a → renA φ κ (mvA σ ξ a) = renA (phi2 φ σ ξ) (kap2 κ σ ξ) a
  | ⟨l⟩, m => by simp only [okMA] at m; simp only [mvA, renA, renL_mv hC l m]
theorem renL_mv {B : Nat} (hC : ∀ k, (ξ k).ok) : ∀ (l : List Value), okML ξ B l → renL φ κ (mvL σ ξ l) = renL (phi2 φ σ ξ) (kap2 κ σ ξ) l
  | [], _ => rfl
  | v :: r, m => by simp only [okML] at m; simp only [mvL, renL, ren_mv hC v m.1, renL_mv hC r m.2]
end

mutual
theorem ok_mv {N N' : Nat → Prop} {B : Nat} (hC : ∀ k, (ξ k).ok) (hN : ∀ k, k < B → N' k) : ∀ (v : Value), okV N κ (mv σ ξ v) → okM ξ B v → okV N' (kap2 κ σ ξ) v
  | .pointer none, _, _ => by simp [okV]
  | .pointer (some a), o, m => by
    simp only [okM] at m
    simp only [mv, okV] at o
    simp only [okV]
    refine ⟨hN _ m.1, ?_⟩
    unfold kap2
    cases hx : ξ a.block with
    | same => exact o.2
    | nil => rw [hx] at m; exact m.2.elim
    | room C => simp only; rw [if_neg o.2]; exact Nat.succ_ne_zero _
  | .slice none _ _, _, _ => by simp [okV]
  | .slice (some a) n c, o, m => by
    simp only [okM] at m
    simp only [mv] at o
    simp only [okV]
    refine ⟨hN _ m.1, ?_⟩
    unfold kap2
    cases hx : ξ a.block with
    | same =>
      rw [hx] at o
      simp only [mvS, okV] at o
      exact o.2
    | nil =>
      rw [hx] at m
      have m2 : n = 0 ∧ (c = 0 ∨ c = openB) := m.2
      have hB : 0 < openB := by unfold openB; omega
      simp only
      refine ⟨fun _ => ⟨m2.1, fun h => ?_⟩, fun h => ?_⟩
      · rcases m2.2 with h' | h' <;> omega
      · rcases m2.2 with h' | h' <;> omega
    | room C =>
      rw [hx] at o m
      simp only [mvS, okV] at o
      have m2 : openB ≤ c → (c - openB) + n ≤ C ∧ (C = 0 ∨ c - openB < C) := m.2
      simp only
      by_cases hk : κ (σ a.block) = 0
      · rw [if_pos hk]
        obtain ⟨o1, o2⟩ := o.2.1 hk
        refine ⟨fun _ => ⟨o1, fun h => ?_⟩, fun h => ?_⟩
        · rw [if_pos h] at o2; exact o2 h
        · have := m2 h
          rw [if_neg (by omega)] at o2
          by_cases hlt : C - (c - openB) < openB
          · have := o2 hlt; omega
          · have := hC a.block
            rw [hx] at this
            have : C < openB := this
            omega
      · rw [if_neg hk]
        exact ⟨fun e => absurd e (Nat.succ_ne_zero _), fun h => by have := (m2 h).1; omega⟩
  | .map none, _, _ => by simp [okV]
  | .map (some r), _, m => by simp only [okM] at m; simp only [okV]; exact hN _ m.1
  | .func fn first captured, o, m => by
    simp only [okM] at m
    simp only [mv, okV] at o
    simp only [okV]
    refine ⟨?_, okA_mv hC hN first o.2.1 m.2.1, okA_mv hC hN captured o.2.2 m.2.2⟩
    cases fn with
    | yield k => exact hN _ m.1.1
    | _ => trivial
  | .iface _ v, o, m => by simp only [okM] at m; simp only [mv, okV] at o; simp only [okV]; exact ok_mv hC hN v o m
  | .agg cs, o, m => by simp only [okM] at m; simp only [mv, okV] at o; simp only [okV]; exact okA_mv hC hN cs o m
  | .tuple cs, o, m => by simp only [okM] at m; simp only [mv, okV] at o; simp only [okV]; exact okA_mv hC hN cs o m
  | .chan none, _, _ => by simp [okV]
  | .chan (some _), _, m => by simp [okM] at m
  | .bool _, _, _ => by simp [okV]
  | .int _ _, _, _ => by simp [okV]
  | .float _ _, _, _ => by simp [okV]
  | .complex _ _ _, _, _ => by simp [okV]
  | .string _, _, _ => by simp [okV]
  | .nilFunc, _, _ => by simp [okV]
  | .nilIface, _, _ => by simp [okV]
theorem okA_mv {N N' : Nat → Prop} {B : Nat} (hC : ∀ k, (ξ k).ok) (hN : ∀ k, k < B → N' k) : ∀ (a : Array Value), okA N κ (mvA σ ξ a) → okMA ξ B a → okA N' (kap2 κ σ ξ) a
  | ⟨l⟩, o, m => by simp only [okMA] at m; simp only [mvA, okA] at o; simp only [okA]; exact okL_mv hC hN l o m
theorem okL_mv {N N' : Nat → Prop} {B : Nat} (hC : ∀ k, (ξ k).ok) (hN : ∀ k, k < B → N' k) : ∀ (l : List Value), okL N κ (mvL σ ξ l) → okML ξ B l → okL N' (kap2 κ σ ξ) l
  | [], _, _ => trivial
  | v :: r, o, m => by
    simp only [okML] at m
    simp only [mvL, okL] at o
    exact ⟨ok_mv hC hN v o.1 m.1, okL_mv hC hN r o.2 m.2⟩
end
end

def mvE (σ : Nat → Nat) (ξ : Nat → Xi) (e : MapEntry) : MapEntry := ⟨mv σ ξ e.key, mv σ ξ e.val, e.born⟩

/-- An object under its new name k, and as it stood under its old one. -/
def OM (σ : Nat → Nat) (ξ : Nat → Xi) (B k : Nat) : AObj → AObj → Prop
  | .cells b1, .cells b2 => b1.cells = mvL σ ξ b2.cells ∧ okML ξ B b2.cells ∧ (b2.esz ≠ 0 → b1.esz ≠ 0) ∧ (b2.opn = true → match ξ k with | .room C => C * b2.esz ≤ b1.cells.length | .nil => True | .same => b1.opn = true ∧ b1.esz = b2.esz)
  | .map e1 c1, .map e2 c2 => e1 = e2.map (mvE σ ξ) ∧ c1 = c2 ∧ ∀ e ∈ e2, okM ξ B e.key ∧ okM ξ B e.val
  | .loop r1, .loop r2 => r1 = r2 ∧ (∀ d v, r2.t.get d = some v → mv σ ξ v = v ∧ okM ξ B v) ∧ σ r2.defers = r2.defers ∧ r2.defers < B ∧ okP (ξ r2.defers)
  | .deferred o1, .deferred o2 => o1 = o2
  | _, _ => False

theorem OM.ent {w : World} {φ : Nat → Nat × Nat} {κ : Nat → Nat} {σ : Nat → Nat} {ξ : Nat → Xi} {B k : Nat} {N N' : Nat → Prop} {o o2 : AObj} (hC : ∀ k, (ξ k).ok) (hN : ∀ k, k < B → N' k) (hn : ξ k ≠ .nil)
    (E : entOK φ κ N w (σ k) o) (m : OM σ ξ B k o o2) : entOK (phi2 φ σ ξ) (kap2 κ σ ξ) N' w k o2 := by
  cases o <;> cases o2 <;> try exact m.elim
  · rename_i b1 b2
    obtain ⟨m1, m2, mz, m3⟩ := m
    have hk1 : kap2 κ σ ξ k = 0 → κ (σ k) = 0 := by
      unfold kap2
      intro e
      cases hx : ξ k with
      | nil => exact absurd hx hn
      | same => rw [hx] at e; exact e
      | room C => rw [hx] at e; simp only at e; split at e
                  · rename_i hz; exact hz
                  · cases e
    refine ⟨fun e => ?_, fun e => ?_⟩
    · have := E.1 (hk1 e)
      rw [m1, mvL_map] at this
      simpa using this
    have hz : κ (σ k) ≠ 0 := by
      intro hz
      apply e
      unfold kap2
      cases hx : ξ k with
      | nil => rfl
      | same => exact hz
      | room C => simp only; rw [if_pos hz]
    obtain ⟨c, el, fz, h1, h1z, h0, h2, h3, h4⟩ := E.2 hz
    rw [m1] at h0 h2 h3
    rw [mvL_map] at h0 h2 h3
    refine ⟨c, el, fz, by rw [phi2_eq hn]; exact h1, fun e => h1z (mz e), by simpa [phi2_eq hn] using h0, fun j v hj => ?_, fun v hv => ?_, fun ho => ?_⟩
    · rw [← ren_mv hC _ (okML_iff.1 m2 v (List.mem_of_getElem? hj)), phi2_eq hn]
      exact h2 j _ (by rw [List.getElem?_map, hj]; rfl)
    · exact ok_mv hC hN v (h3 _ (List.mem_map.2 ⟨v, hv, rfl⟩)) (okML_iff.1 m2 v hv)
    · have m4 := m3 ho
      unfold kap2
      rw [phi2_eq hn]
      cases hx : ξ k with
      | nil => exact absurd hx hn
      | same =>
        rw [hx] at m4
        simp only at m4 ⊢
        have := h4 m4.1
        rw [m4.2] at this
        exact this
      | room C =>
        rw [hx] at m4
        simp only at m4 ⊢
        rw [m1, mvL_map] at m4
        rw [if_neg hz, Nat.add_sub_cancel]
        omega
  · obtain ⟨m1, m2, m3⟩ := m
    obtain ⟨h1, h2, h3⟩ := E
    subst m1 m2
    refine ⟨by rw [phi2_eq hn]; exact h1, ?_, fun e he => ?_⟩
    · rw [phi2_eq hn, h2, List.map_map]
      congr 3
      apply List.map_congr_left
      intro e he
      simp only [Function.comp_apply, renE, mvE, ren_mv hC _ (m3 e he).1, ren_mv hC _ (m3 e he).2]
    · have := h3 _ (List.mem_map.2 ⟨e, he, rfl⟩)
      exact ⟨ok_mv hC hN _ this.1 (m3 e he).1, ok_mv hC hN _ this.2 (m3 e he).2⟩
  · obtain ⟨m1, m2, m3, m4, m5⟩ := m
    subst m1
    obtain ⟨h1, R, h2, h3⟩ := E
    refine ⟨by rw [phi2_eq hn]; exact h1, R, by rw [phi2_eq hn]; exact h2, ⟨h3.state, h3.pending, h3.params, h3.assign, h3.body, h3.size, fun d v hd => ?_, fun d v hd => ?_, ?_, hN _ m4⟩⟩
    · rw [← ren_mv hC _ (m2 d v hd).2, (m2 d v hd).1]; exact h3.get d v hd
    · exact ok_mv hC hN v (by rw [(m2 d v hd).1]; exact h3.ok d v hd) (m2 d v hd).2
    · rw [phi2_eq (okP_ne m5), m3]; exact h3.defers
  · obtain ⟨h1, h2⟩ := E
    have m : _ = _ := m
    subst m
    exact ⟨by rw [phi2_eq hn]; exact h1, by rw [phi2_eq hn]; exact h2⟩

def nilO : AObj → Prop
  | .cells b => b.cells = []
  | _ => False
theorem nilO.ent {w : World} {φ : Nat → Nat × Nat} {κ : Nat → Nat} {N : Nat → Prop} {k : Nat} {o : AObj} (m : nilO o) (hk : κ k = 0) : entOK φ κ N w k o := by
  cases o with
  | cells b => exact ⟨fun _ => m, fun h => absurd hk h⟩
  | _ => exact m.elim
theorem nilO.rl {κ : Nat → Nat} {k : Nat} {o : AObj} (m : nilO o) (hk : κ k = 0) : ¬ rl κ k o := by
  cases o with
  | cells b => exact fun h => h hk
  | _ => exact m.elim
theorem OM.rl {κ : Nat → Nat} {σ : Nat → Nat} {ξ : Nat → Xi} {B k : Nat} {o o2 : AObj} (m : OM σ ξ B k o o2) (hr : Vm.rl (kap2 κ σ ξ) k o2) : Vm.rl κ (σ k) o := by
  cases o <;> cases o2 <;> first
    | exact m.elim
    | trivial
    | (show κ (σ k) ≠ 0
       intro hz
       apply hr
       unfold kap2
       split
       · rw [if_pos hz]
       · rfl
       · exact hz)

/-- What must be seen of two states, that one is the other under new names. -/
structure Gc (σ : Nat → Nat) (ξ : Nat → Xi) (b : Nat) (t : Tr Value) (ms : List Nat) (h : AH) (t' : Tr Value) (ms' : List Nat) (h' : AH) : Prop where
  hid : h.hid = []
  hid' : h'.hid = []
  wlim : h'.wlim = h.wlim
  wl : h.wlim ≤ b
  base : b ≤ h'.next
  low : ∀ k, k < b → σ k = k ∧ ξ k = .same
  inj : ∀ k k' o o', h'.get k = some o → h'.get k' = some o' → ξ k ≠ .nil → ξ k' ≠ .nil → h.wlim ≤ k → σ k = σ k' → k = k'
  high : ∀ k o, h'.get k = some o → ξ k ≠ .nil → h.wlim ≤ k → h.wlim ≤ σ k
  room : ∀ k, (ξ k).ok
  keep : ∀ k, k < h.wlim → h'.tr.get k = h.tr.get k
  obj : ∀ k o', h'.get k = some o' → (ξ k = .nil ∧ nilO o') ∨ (ξ k ≠ .nil ∧ ∃ o, h.get (σ k) = some o ∧ OM σ ξ h'.next k o o')
  val : ∀ d v', t'.get d = some v' → t.get d = some (mv σ ξ v') ∧ okM ξ h'.next v'
  marks : ms = ms'.map σ ∧ ∀ m ∈ ms', m < h'.next ∧ okP (ξ m)

theorem Gc.wk {σ : Nat → Nat} {ξ : Nat → Xi} {b nt : Nat} {rd : Option Nat} {t t' : Tr Value} {ms ms' : List Nat} {h h' : AH} (G : Gc σ ξ b t ms h t' ms' h') (hrd : ∀ k, rd = some k → k < b) : Wk nt b rd t ms h t' ms' h' := by
  intro w0 φ κ w a rc B R D M A
  have hN : ∀ k, k < h'.next → h'.N k := fun k hk => by
    show h'.sees k = true
    unfold AH.sees
    rw [G.hid']
    simpa using hk
  have kz : ∀ k, ξ k = .nil → kap2 κ σ ξ k = 0 := fun k hk => by unfold kap2; rw [hk]
  refine ⟨phi2 φ σ ξ, kap2 κ σ ξ, ⟨fun k hk => ?_, ⟨R.below, fun p hp => (by rw [G.hid'] at hp; cases hp), ?_, fun k o g => ?_, fun k o g hr hk => ?_, fun k k' o o' g g' hr hr' hk e => ?_⟩, G.base, by rw [G.hid', G.hid], G.wlim, G.keep⟩, ?_, fun m hm => hN _ (G.marks.2 m hm).1, ⟨?_, A.size, fun d v hd => ?_, fun d v hd => ?_⟩⟩
  · obtain ⟨l1, l2⟩ := G.low k hk
    unfold phi2 kap2
    rw [l1, l2]
    exact ⟨rfl, rfl⟩
  · rw [G.wlim]; exact Nat.le_trans G.wl G.base
  · rcases G.obj k o g with ⟨hx, m⟩ | ⟨hx, o1, g1, m⟩
    · exact m.ent (kz k hx)
    · exact m.ent G.room hN hx (R.ent _ _ g1)
  · rcases G.obj k o g with ⟨hx, m⟩ | ⟨hx, o1, g1, m⟩
    · exact absurd hr (m.rl (kz k hx))
    rw [G.wlim] at hk
    rw [phi2_eq hx]
    exact R.own _ _ g1 (m.rl hr) (G.high k o g hx hk)
  · rcases G.obj k o g with ⟨hx, m⟩ | ⟨hx, o1, g1, m⟩
    · exact absurd hr (m.rl (kz k hx))
    rcases G.obj k' o' g' with ⟨hx', m'⟩ | ⟨hx', o2, g2, m'⟩
    · exact absurd hr' (m'.rl (kz k' hx'))
    rw [G.wlim] at hk
    rw [phi2_eq hx, phi2_eq hx'] at e
    exact G.inj k k' o o' g g' hx hx' hk (R.inj _ _ _ _ g1 g2 (m.rl hr) (m'.rl hr') (G.high k o g hx hk) e)
  · unfold RdOK at *
    cases rd with
    | none => cases rc <;> exact D
    | some k =>
      cases rc with
      | none => exact D
      | some c =>
        have hk := hrd k rfl
        refine ⟨hN _ (Nat.lt_of_lt_of_le hk G.base), ?_⟩
        rw [phi2_eq (by rw [(G.low k hk).2]; simp), (G.low k hk).1]
        exact D.2
  · rw [A.defers, G.marks.1, List.map_map]
    apply List.map_congr_left
    intro m hm
    simp only [Function.comp_apply, markD, phi2_eq (okP_ne (G.marks.2 m hm).2)]
  · rw [← ren_mv G.room _ (G.val d v hd).2]; exact A.get d _ (G.val d v hd).1
  · exact ok_mv G.room hN v (A.ok d _ (G.val d v hd).1) (G.val d v hd).2
end Go.Vm

/- VmU: A machine for closed runs, twenty-first part: a contract on the memory that it reads holds in greater memory. -/
namespace Go.Vm
open Go Go.RowKit

mutual
/-- A value under other names: ψ says which, and from where on. -/
def mw (ψ : Nat → Nat × Nat × Bool) : Value → Value
  | .pointer (some a) => .pointer (some ⟨(ψ a.block).1, (ψ a.block).2.1 + a.off, a.spot⟩)
  | .slice (some a) n c => if (ψ a.block).2.2 = true then .slice none n 0 else .slice (some ⟨(ψ a.block).1, (ψ a.block).2.1 + a.off, a.spot⟩) n c
  | .map (some r) => .map (some (ψ r).1)
  | .func fn first captured => .func (mvF (fun k => (ψ k).1) fn) (mwA ψ first) (mwA ψ captured)
  | .iface t v => .iface t (mw ψ v)
  | .agg cs => .agg (mwA ψ cs)
  | .tuple vs => .tuple (mwA ψ vs)
  | v => v
def mwA (ψ : Nat → Nat × Nat × Bool) : Array Value → Array Value
  | ⟨l⟩ => ⟨mwL ψ l⟩
def mwL (ψ : Nat → Nat × Nat × Bool) : List Value → List Value
  | [] => []
  | v :: r => mw ψ v :: mwL ψ r
end
theorem mwL_map (ψ : Nat → Nat × Nat × Bool) (l : List Value) : mwL ψ l = l.map (mw ψ) := by
  induction l with
  | nil => rfl
  | cons v r ih => simp [mwL, ih]

def phi3 (φ : Nat → Nat × Nat) (ψ : Nat → Nat × Nat × Bool) : Nat → Nat × Nat := fun k => if (ψ k).2.2 = true then (0, 0) else ((φ (ψ k).1).1, (φ (ψ k).1).2 + (ψ k).2.1)
theorem phi3_eq {φ : Nat → Nat × Nat} {ψ : Nat → Nat × Nat × Bool} {k : Nat} (h : ¬ (ψ k).2.2 = true) : phi3 φ ψ k = ((φ (ψ k).1).1, (φ (ψ k).1).2 + (ψ k).2.1) := if_neg h
def kap3 (κ : Nat → Nat) (ψ : Nat → Nat × Nat × Bool) : Nat → Nat := fun k => if (ψ k).2.2 = true then 0 else κ (ψ k).1
/-- What is nil. -/
def xiP (ψ : Nat → Nat × Nat × Bool) : Nat → Xi := fun k => if (ψ k).2.2 = true then .nil else .same
theorem xiP_t {ψ : Nat → Nat × Nat × Bool} {k : Nat} (h : (ψ k).2.2 = true) : xiP ψ k = .nil := if_pos h
theorem xiP_n {ψ : Nat → Nat × Nat × Bool} {k : Nat} (h : okP (xiP ψ k)) : ¬ (ψ k).2.2 = true := fun e => by rw [xiP_t e] at h; exact h
theorem xiP_f {ψ : Nat → Nat × Nat × Bool} {k : Nat} (h : ¬ (ψ k).2.2 = true) : xiP ψ k = .same := if_neg h

section
variable {φ : Nat → Nat × Nat} {κ : Nat → Nat} {ψ : Nat → Nat × Nat × Bool}
mutual
theorem ren_mw {B : Nat} : ∀ (v : Value), okM (xiP ψ) B v → ren φ κ (mw ψ v) = ren (phi3 φ ψ) (kap3 κ ψ) v
  | .pointer none, _ => rfl
  | .pointer (some a), m => by
    simp only [okM] at m
    simp only [mw, ren, phi3_eq (xiP_n m.2), Nat.add_assoc]
  | .slice none _ _, _ => rfl
  | .slice (some a) n c, _ => by
    by_cases h : (ψ a.block).2.2 = true
    · have e : kap3 κ ψ a.block = 0 := if_pos h
      have e2 : phi3 φ ψ a.block = (0, 0) := if_pos h
      simp only [mw, ren, e2, h, e, if_true, dec_0]
    · have e : kap3 κ ψ a.block = κ (ψ a.block).1 := if_neg h
      simp only [mw, ren, phi3_eq h, h, e, Nat.add_assoc, if_false, Bool.false_eq_true]
  | .map none, _ => rfl
  | .map (some r), m => by
    simp only [okM] at m
    simp only [mw, ren, phi3_eq (xiP_n m.2)]
  | .func fn first captured, m => by
    simp only [okM] at m
    simp only [mw, ren, renA_mw first m.2.1, renA_mw captured m.2.2]
    congr 1
    cases fn with
    | yield k => simp only [mvF, renF, phi3_eq (xiP_n m.1.2)]
    | _ => rfl
  | .iface _ v, m => by simp only [okM] at m; simp only [mw, ren, ren_mw v m]
  | .agg cs, m => by simp only [okM] at m; simp only [mw, ren, renA_mw cs m]
  | .tuple cs, m => by simp only [okM] at m; simp only [mw, ren, renA_mw cs m]
  | .chan _, _ => by simp [mw, ren]
  | .bool _, _ => by simp [mw, ren]
  | .int _ _, _ => by simp [mw, ren]
  | .float _ _, _ => by simp [mw, ren]
  | .complex _ _ _, _ => by simp [mw, ren]
  | .string _, _ => by simp [mw, ren]
  | .nilFunc, _ => by simp [mw, ren]
  | .nilIface, _ => by simp [mw, ren]
theorem renA_mw {B : Nat} : ∀ (a : Array Value), okMA (xiP ψ) B a → renA φ κ (mwA ψ a) = renA (phi3 φ ψ) (kap3 κ ψ) a
  | ⟨l⟩, m => by simp only [okMA] at m; simp only [mwA, renA, renL_mw l m]
theorem renL_mw {B : Nat} : ∀ (l : List Value), okML (xiP ψ) B l → renL φ κ (mwL ψ l) = renL (phi3 φ ψ) (kap3 κ ψ) l
  | [], _ => rfl
  | v :: r, m => by simp only [okML] at m; simp only [mwL, renL, ren_mw v m.1, renL_mw r m.2]
end
mutual
theorem ok_mw {N N' : Nat → Prop} {B : Nat} (hN : ∀ k, k < B → N' k) : ∀ (v : Value), okV N κ (mw ψ v) → okM (xiP ψ) B v → okV N' (kap3 κ ψ) v
  | .pointer none, _, _ => by simp [okV]
  | .pointer (some a), o, m => by
    simp only [okM] at m
    simp only [mw, okV] at o
    simp only [okV]
    refine ⟨hN _ m.1, ?_⟩
    by_cases h : (ψ a.block).2.2 = true
    · rw [xiP_t h] at m; exact m.2.elim
    · unfold kap3; rw [if_neg h]; exact o.2
  | .slice none _ _, _, _ => by simp [okV]
  | .slice (some a) n c, o, m => by
    simp only [okM] at m
    simp only [mw] at o
    simp only [okV]
    refine ⟨hN _ m.1, ?_⟩
    unfold kap3
    by_cases h : (ψ a.block).2.2 = true
    · rw [if_pos h]
      rw [xiP_t h] at m
      have m2 : n = 0 ∧ (c = 0 ∨ c = openB) := m.2
      have hB : 0 < openB := by unfold openB; omega
      refine ⟨fun _ => ⟨m2.1, fun h => ?_⟩, fun h => ?_⟩
      · rcases m2.2 with h' | h' <;> omega
      · rcases m2.2 with h' | h' <;> omega
    · rw [if_neg h] at o ⊢
      simp only [okV] at o
      exact o.2
  | .map none, _, _ => by simp [okV]
  | .map (some r), _, m => by simp only [okM] at m; simp only [okV]; exact hN _ m.1
  | .func fn first captured, o, m => by
    simp only [okM] at m
    simp only [mw, okV] at o
    simp only [okV]
    refine ⟨?_, okA_mw hN first o.2.1 m.2.1, okA_mw hN captured o.2.2 m.2.2⟩
    cases fn with
    | yield k => exact hN _ m.1.1
    | _ => trivial
  | .iface _ v, o, m => by simp only [okM] at m; simp only [mw, okV] at o; simp only [okV]; exact ok_mw hN v o m
  | .agg cs, o, m => by simp only [okM] at m; simp only [mw, okV] at o; simp only [okV]; exact okA_mw hN cs o m
  | .tuple cs, o, m => by simp only [okM] at m; simp only [mw, okV] at o; simp only [okV]; exact okA_mw hN cs o m
  | .chan none, _, _ => by simp [okV]
  | .chan (some _), _, m => by simp [okM] at m
  | .bool _, _, _ => by simp [okV]
  | .int _ _, _, _ => by simp [okV]
  | .float _ _, _, _ => by simp [okV]
  | .complex _ _ _, _, _ => by simp [okV]
  | .string _, _, _ => by simp [okV]
  | .nilFunc, _, _ => by simp [okV]
  | .nilIface, _, _ => by simp [okV]
theorem okA_mw {N N' : Nat → Prop} {B : Nat} (hN : ∀ k, k < B → N' k) : ∀ (a : Array Value), okA N κ (mwA ψ a) → okMA (xiP ψ) B a → okA N' (kap3 κ ψ) a
  | ⟨l⟩, o, m => by simp only [okMA] at m; simp only [mwA, okA] at o; simp only [okA]; exact okL_mw hN l o m
theorem okL_mw {N N' : Nat → Prop} {B : Nat} (hN : ∀ k, k < B → N' k) : ∀ (l : List Value), okL N κ (mwL ψ l) → okML (xiP ψ) B l → okL N' (kap3 κ ψ) l
  | [], _, _ => trivial
  | v :: r, o, m => by
    simp only [okML] at m
    simp only [mwL, okL] at o
    exact ⟨ok_mw hN v o.1 m.1, okL_mw hN r o.2 m.2⟩
end
mutual
/- the other way: what stands in the small memory stands in the great one -/
theorem mw_ok {N N' : Nat → Prop} {κ' : Nat → Nat} (hN : ∀ k, N k → N' (ψ k).1) (hk : ∀ k, N k → if (ψ k).2.2 = true then κ k = 0 else κ' (ψ k).1 = κ k) : ∀ (v : Value), okV N κ v → okV N' κ' (mw ψ v)
  | .pointer none, _ => by simp [mw, okV]
  | .pointer (some a), o => by
    simp only [okV] at o
    simp only [mw, okV]
    have h := hk _ o.1
    refine ⟨hN _ o.1, ?_⟩
    split at h
    · exact absurd h o.2
    · rw [h]; exact o.2
  | .slice none _ _, _ => by simp [mw, okV]
  | .slice (some a) n c, o => by
    simp only [okV] at o
    simp only [mw]
    have h := hk _ o.1
    split
    · simp [okV]
    · rename_i hn
      rw [if_neg hn] at h
      simp only [okV]
      exact ⟨hN _ o.1, by rw [h]; exact o.2⟩
  | .map none, _ => by simp [mw, okV]
  | .map (some r), o => by simp only [okV] at o; simp only [mw, okV]; exact hN _ o
  | .func fn first captured, o => by
    simp only [okV] at o
    simp only [mw, okV]
    refine ⟨?_, mwA_ok hN hk first o.2.1, mwA_ok hN hk captured o.2.2⟩
    cases fn with
    | yield k => exact hN _ o.1
    | _ => trivial
  | .iface _ v, o => by simp only [okV] at o; simp only [mw, okV]; exact mw_ok hN hk v o
  | .agg cs, o => by simp only [okV] at o; simp only [mw, okV]; exact mwA_ok hN hk cs o
  | .tuple cs, o => by simp only [okV] at o; simp only [mw, okV]; exact mwA_ok hN hk cs o
  | .chan none, _ => by simp [mw, okV]
  | .chan (some _), o => by simp [okV] at o
  | .bool _, _ => by simp [mw, okV]
  | .int _ _, _ => by simp [mw, okV]
  | .float _ _, _ => by simp [mw, okV]
  | .complex _ _ _, _ => by simp [mw, okV]
  | .string _, _ => by simp [mw, okV]
  | .nilFunc, _ => by simp [mw, okV]
  | .nilIface, _ => by simp [mw, okV]
theorem mwA_ok {N N' : Nat → Prop} {κ' : Nat → Nat} (hN : ∀ k, N k → N' (ψ k).1) (hk : ∀ k, N k → if (ψ k).2.2 = true then κ k = 0 else κ' (ψ k).1 = κ k) : ∀ (a : Array Value), okA N κ a → okA N' κ' (mwA ψ a)
  | ⟨l⟩, o => by simp only [okA] at o; simp only [mwA, okA]; exact mwL_ok hN hk l o
theorem mwL_ok {N N' : Nat → Prop} {κ' : Nat → Nat} (hN : ∀ k, N k → N' (ψ k).1) (hk : ∀ k, N k → if (ψ k).2.2 = true then κ k = 0 else κ' (ψ k).1 = κ k) : ∀ (l : List Value), okL N κ l → okL N' κ' (mwL ψ l)
  | [], _ => trivial
  | v :: r, o => by simp only [okL] at o; exact ⟨mw_ok hN hk v o.1, mwL_ok hN hk r o.2⟩
end
end

/-- New objects, one behind the other. -/
def AH.news (h : AH) (os : List AObj) : AH := os.foldl AH.new h
theorem news_nil (h : AH) : h.news [] = h := rfl
theorem news_cons (h : AH) (o : AObj) (os : List AObj) : h.news (o :: os) = (h.new o).news os := rfl
theorem news_append (h : AH) (os os' : List AObj) : h.news (os ++ os') = (h.news os).news os' := by unfold AH.news; rw [List.foldl_append]
theorem news_next (h : AH) (os : List AObj) : (h.news os).next = h.next + os.length := by
  induction os generalizing h with
  | nil => rfl
  | cons o os ih => rw [news_cons, ih, new_next, List.length_cons]; omega
theorem news_hid (h : AH) (os : List AObj) : (h.news os).hid = h.hid := by
  induction os generalizing h with
  | nil => rfl
  | cons o os ih => rw [news_cons, ih, new_hid]
theorem news_wlim (h : AH) (os : List AObj) : (h.news os).wlim = h.wlim := by
  induction os generalizing h with
  | nil => rfl
  | cons o os ih => rw [news_cons, ih, new_wlim]
theorem news_tr (h : AH) (os : List AObj) (k : Nat) (hk : k < h.next) : (h.news os).tr.get k = h.tr.get k := by
  induction os generalizing h with
  | nil => rfl
  | cons o os ih => rw [news_cons, ih _ (by rw [new_next]; omega), new_tr, Tr.get_put, if_neg (by omega)]
theorem news_get {h : AH} (hh : ∀ p ∈ h.hid, p.2 ≤ h.next) (os : List AObj) (k : Nat) : (h.news os).get k = if k < h.next then h.get k else os[k - h.next]? := by
  induction os generalizing h with
  | nil =>
    rw [news_nil]
    split
    · rfl
    · rename_i hk
      unfold AH.get
      rw [if_neg (fun s => hk (sees_lt s))]
      rfl
  | cons o os ih =>
    have hh' : ∀ p ∈ (h.new o).hid, p.2 ≤ (h.new o).next := fun p hp => Nat.le_succ_of_le (hh p hp)
    rw [news_cons, ih hh', new_next, new_get hh]
    rcases Nat.lt_trichotomy k h.next with hk | hk | hk
    · rw [if_pos (by omega), if_neg (by omega), if_pos hk]
    · subst hk; rw [if_pos (by omega), if_pos rfl, if_neg (by omega)]; simp
    · rw [if_neg (by omega), if_neg (by omega), show k - h.next = (k - (h.next + 1)) + 1 from by omega]; rfl
theorem news_N {h : AH} (os : List AObj) {k : Nat} (s : h.N k) : (h.news os).N k := sees_mono (h := h) (by rw [news_next]; omega) (by rw [news_hid]) s
theorem news_grow {h : AH} (hw : h.wlim ≤ h.next) (os : List AObj) : Grow h (h.news os) :=
  ⟨by rw [news_next]; omega, news_hid h os, news_wlim h os, fun k hk => news_tr h os k (by omega)⟩

def mwE (ψ : Nat → Nat × Nat × Bool) (e : MapEntry) : MapEntry := ⟨mw ψ e.key, mw ψ e.val, e.born⟩
/-- An object under other names. -/
def mwO (ψ : Nat → Nat × Nat × Bool) : AObj → AObj
  | .cells b => .cells ⟨mwL ψ b.cells, b.esz, b.opn⟩
  | .map es c => .map (es.map (mwE ψ)) c
  | o => o
def plainO : AObj → Bool
  | .cells _ | .map _ _ => true
  | _ => false

/-- What the great memory must hold where the small one holds o. -/
def OW (ψ : Nat → Nat × Nat × Bool) (B k : Nat) : AObj → AObj → Prop
  | .cells b1, .cells b2 => mwL ψ b2.cells <+: b1.cells.drop (ψ k).2.1 ∧ (b2.cells = [] → (ψ k).2.1 ≤ b1.cells.length) ∧ okML (xiP ψ) B b2.cells ∧ (b2.opn = true → (ψ k).2.1 = 0 ∧ b1.opn = true ∧ b1.esz = b2.esz) ∧ (b2.esz ≠ 0 → b1.esz ≠ 0)
  | .map e1 c1, .map e2 c2 => (ψ k).2.1 = 0 ∧ e1 = e2.map (mwE ψ) ∧ c1 = c2 ∧ ∀ e ∈ e2, okM (xiP ψ) B e.key ∧ okM (xiP ψ) B e.val
  | _, _ => False

theorem OW.ent {w : World} {φ : Nat → Nat × Nat} {κ : Nat → Nat} {ψ : Nat → Nat × Nat × Bool} {B k : Nat} {N N' : Nat → Prop} {o o2 : AObj} (hN : ∀ k, k < B → N' k) (hn : ¬ (ψ k).2.2 = true)
    (E : entOK φ κ N w (ψ k).1 o) (m : OW ψ B k o o2) : entOK (phi3 φ ψ) (kap3 κ ψ) N' w k o2 := by
  cases o <;> cases o2 <;> try exact m.elim
  · rename_i b1 b2
    obtain ⟨⟨r, m1⟩, m0, m2, m3, mz⟩ := m
    have hk3 : kap3 κ ψ k = κ (ψ k).1 := if_neg hn
    rw [mwL_map] at m1
    refine ⟨fun hz => ?_, fun hz => ?_⟩
    · rw [hk3] at hz
      have := E.1 hz
      rw [this] at m1
      have := congrArg List.length m1
      simp only [List.length_append, List.length_map, List.length_drop, List.length_nil] at this
      exact List.eq_nil_of_length_eq_zero (by omega)
    rw [hk3] at hz
    obtain ⟨c, el, fz, h1, h1z, h0, h2, h3, h4⟩ := E.2 hz
    have hl : (ψ k).2.1 + b2.cells.length ≤ b1.cells.length := by
      have := congrArg List.length m1
      simp only [List.length_append, List.length_map, List.length_drop] at this
      cases hb : b2.cells with
      | nil => rw [hb] at m0; simpa using m0 rfl
      | cons x y =>
        rw [hb] at this
        simp only [List.length_cons] at this ⊢
        omega
    have hg : ∀ j v, b2.cells[j]? = some v → b1.cells[(ψ k).2.1 + j]? = some (mw ψ v) := by
      intro j v hj
      have hlt : j < b2.cells.length := (List.getElem?_eq_some_iff.1 hj).1
      rw [← List.getElem?_drop, ← m1, List.getElem?_append_left (by simpa using hlt), List.getElem?_map, hj]
      rfl
    refine ⟨c, el, fz, by rw [phi3_eq hn]; exact h1, fun e => h1z (mz e), by rw [phi3_eq hn]; simp only; omega, fun j v hj => ?_, fun v hv => ?_, fun ho => ?_⟩
    · rw [← ren_mw v (okML_iff.1 m2 v (List.mem_of_getElem? hj)), phi3_eq hn]
      have := h2 _ _ (hg j v hj)
      simp only
      rw [Nat.add_assoc]
      exact this
    · obtain ⟨j, hj⟩ := List.getElem?_of_mem hv
      exact ok_mw hN v (h3 _ (List.mem_of_getElem? (hg j v hj))) (okML_iff.1 m2 v hv)
    · obtain ⟨p1, p2, p3⟩ := m3 ho
      have := h4 p2
      rw [p3] at this
      rw [phi3_eq hn, hk3, p1]
      exact this
  · obtain ⟨m0, m1, m2, m3⟩ := m
    obtain ⟨h1, h2, h3⟩ := E
    subst m1 m2
    refine ⟨by rw [phi3_eq hn]; simp only [h1, m0], ?_, fun e he => ?_⟩
    · rw [phi3_eq hn]
      show w.heap[(φ (ψ k).1).1]? = _
      rw [h2, List.map_map]
      congr 3
      apply List.map_congr_left
      intro e he
      simp only [Function.comp_apply, renE, mwE, ren_mw _ (m3 e he).1, ren_mw _ (m3 e he).2]
    · have := h3 _ (List.mem_map.2 ⟨e, he, rfl⟩)
      exact ⟨ok_mw hN _ this.1 (m3 e he).1, ok_mw hN _ this.2 (m3 e he).2⟩

def okMO (ξ : Nat → Xi) (B : Nat) : AObj → Prop
  | .cells b => okML ξ B b.cells
  | .map es _ => ∀ e ∈ es, okM ξ B e.key ∧ okM ξ B e.val
  | _ => True
/-- Where the new names of a small memory go. -/
def psi1 (ψ : Nat → Nat × Nat × Bool) (m n : Nat) : Nat → Nat × Nat × Bool := fun k => if k < m then ψ k else (n + (k - m), 0, false)

theorem rl_mwO {κ κ' : Nat → Nat} {ψ : Nat → Nat × Nat × Bool} {k j : Nat} {o : AObj} (e : κ k = κ' j) (h : rl κ k (mwO ψ o)) : rl κ' j o := by
  cases o with
  | cells b => show κ' j ≠ 0; rw [← e]; exact h
  | _ => trivial
theorem Fc.frame {P : Program} {f : Nat} {args : List Value} {hc : AH} {v : Value} {os : List AObj} (F : Fc P f args hc v (hc.news os)) (ψ : Nat → Nat × Nat × Bool) {h : AH}
    (c1 : hc.hid = []) (c2 : hc.wlim = hc.next) (hos : os.all plainO = true) (hobj : ∀ k o, hc.get k = some o → ((ψ k).2.2 = true ∧ nilO o) ∨ (¬ (ψ k).2.2 = true ∧ ∃ o1, h.get (ψ k).1 = some o1 ∧ OW ψ hc.next k o1 o)) (hnames : ∀ k, k < hc.next → h.sees (ψ k).1 = true) (hargs : okML (xiP ψ) hc.next args)
    (hv : okM (xiP (psi1 ψ hc.next h.next)) (hc.next + os.length) v) (hos2 : ∀ o ∈ os, okMO (xiP (psi1 ψ hc.next h.next)) (hc.next + os.length) o) :
    Fc P f (mwL ψ args) h (mw (psi1 ψ hc.next h.next) v) (h.news (os.map (mwO (psi1 ψ hc.next h.next)))) := by
  refine ⟨fun hw => news_grow hw _, F.body, fun w0 φ κ w R ha => ?_⟩
  have hNc : ∀ k, k < hc.next → hc.N k := fun k hk => by
    show hc.sees k = true
    unfold AH.sees
    rw [c1]
    simpa using hk
  have Rc : Rel w (phi3 φ ψ) (kap3 κ ψ) hc w := by
    refine ⟨Below.refl _ _, fun p hp => (by rw [c1] at hp; cases hp), by rw [c2]; exact Nat.le_refl _, fun k o g => ?_, fun k o g _ hk => ?_, fun k k' o o' g _ _ _ hk => ?_⟩
    · rcases hobj k o g with ⟨hx, m⟩ | ⟨hx, o1, g1, m⟩
      · exact m.ent (if_pos hx)
      · exact m.ent hNc hx (R.ent _ _ g1)
    · have := sees_lt (get_sees g); omega
    · have := sees_lt (get_sees g); omega
  have hok : ∀ x ∈ args, okV hc.N (kap3 κ ψ) x := fun x hx => ok_mw hNc x (ha _ (by rw [mwL_map]; exact List.mem_map.2 ⟨x, hx, rfl⟩)) (okML_iff.1 hargs x hx)
  have hrun := F.run w _ _ w Rc hok
  have hmap : args.map (ren (phi3 φ ψ) (kap3 κ ψ)) = (mwL ψ args).map (ren φ κ) := by
    rw [mwL_map, List.map_map]
    apply List.map_congr_left
    intro x hx
    exact (ren_mw x (okML_iff.1 hargs x hx)).symm
  rw [hmap] at hrun
  refine hrun.mono ?_
  rintro e w' ⟨φ', κ', rfl, S, ov⟩
  let φ2 : Nat → Nat × Nat := fun k => if k < h.next then φ k else if k < h.next + os.length then φ' (hc.next + (k - h.next)) else φ k
  let κ2 : Nat → Nat := fun k => if k < h.next then κ k else if k < h.next + os.length then κ' (hc.next + (k - h.next)) else κ k
  have hψ : ∀ k, k < hc.next → (ψ k).1 < h.next := fun k hk => sees_lt (hnames k hk)
  have hag : ∀ k, (hc.news os).N k → phi3 φ2 (psi1 ψ hc.next h.next) k = φ' k ∧ kap3 κ2 (psi1 ψ hc.next h.next) k = κ' k := by
    intro k hk
    have hlt := sees_lt hk
    rw [news_next] at hlt
    unfold phi3 kap3 psi1
    by_cases h1 : k < hc.next
    · obtain ⟨a1, a2⟩ := S.agr k (by omega)
      simp only [h1, if_true]
      have e1 : φ2 (ψ k).1 = φ (ψ k).1 := if_pos (hψ k h1)
      have e2 : κ2 (ψ k).1 = κ (ψ k).1 := if_pos (hψ k h1)
      rw [e1, e2, a1, a2]
      exact ⟨rfl, rfl⟩
    · simp only [h1, if_false]
      have e1 : φ2 (h.next + (k - hc.next)) = φ' k := by
        show (if _ then _ else _) = _
        rw [if_neg (by omega), if_pos (by omega)]
        congr 1
        omega
      have e2 : κ2 (h.next + (k - hc.next)) = κ' k := by
        show (if _ then _ else _) = _
        rw [if_neg (by omega), if_pos (by omega)]
        congr 1
        omega
      rw [e1, e2]
      exact ⟨rfl, rfl⟩
  have hN2 : ∀ k, (hc.news os).N k → (h.news (os.map (mwO (psi1 ψ hc.next h.next)))).N (psi1 ψ hc.next h.next k).1 := by
    intro k hk
    have hlt := sees_lt hk
    rw [news_next] at hlt
    unfold psi1
    by_cases h1 : k < hc.next
    · rw [if_pos h1]; exact news_N _ (hnames k h1)
    · rw [if_neg h1]
      show AH.sees _ _ = true
      unfold AH.sees
      rw [news_next, news_hid, List.length_map]
      simp only [Bool.and_eq_true, decide_eq_true_eq, Bool.not_eq_true', List.any_eq_false]
      refine ⟨by omega, fun p hp => ?_⟩
      have := R.hid p hp
      simp
      omega
  have hκ2 : ∀ k, (hc.news os).N k → if (psi1 ψ hc.next h.next k).2.2 = true then κ' k = 0 else κ2 (psi1 ψ hc.next h.next k).1 = κ' k := fun k hk => by
    have := (hag k hk).2
    unfold kap3 at this
    split
    · rename_i hx; rw [if_pos hx] at this; exact this.symm
    · rename_i hx; rw [if_neg hx] at this; exact this
  have hren : ∀ x, okV (hc.news os).N κ' x → okM (xiP (psi1 ψ hc.next h.next)) (hc.next + os.length) x → ren φ' κ' x = ren φ2 κ2 (mw (psi1 ψ hc.next h.next) x) := by
    intro x hx hm
    rw [ren_mw x hm]
    exact (ren_congr hag x hx).symm
  have hb := S.rel.below
  refine ⟨φ2, κ2, by rw [← hren v ov hv], ⟨fun k hk => ?_, ⟨R.below.trans (hb.mono R.below.size), fun p hp => ?_, ?_, fun k o g => ?_, fun k o g hr hk => ?_, fun k k' o o' g g' hr hr' hk e => ?_⟩, by rw [news_next]; omega, news_hid _ _, news_wlim _ _, fun k hk => news_tr _ _ _ (Nat.lt_of_lt_of_le hk R.wl)⟩, mw_ok hN2 hκ2 v ov⟩
  · rw [news_next, List.length_map] at hk
    have h1 : φ2 k = φ k := by
      show (if _ then _ else if _ then _ else _) = _
      by_cases h1 : k < h.next
      · rw [if_pos h1]
      · rw [if_neg h1, if_neg (by omega)]
    have h2 : κ2 k = κ k := by
      show (if _ then _ else if _ then _ else _) = _
      by_cases h1 : k < h.next
      · rw [if_pos h1]
      · rw [if_neg h1, if_neg (by omega)]
    exact ⟨h1, h2⟩
  · rw [news_hid] at hp
    rw [news_next]
    have := R.hid p hp
    omega
  · rw [news_wlim, news_next]
    have := R.wl
    omega
  · rw [news_get R.hid] at g
    split at g
    · rename_i hk
      have E := R.ent k o g
      exact E.move (fun j s => news_N _ s) (fun j s => ⟨if_pos (sees_lt s), if_pos (sees_lt s)⟩) ⟨if_pos hk, if_pos hk⟩ (fun hr => hb.block _ (E.lt hr))
    · rename_i hk
      rw [List.getElem?_map] at g
      obtain ⟨oc, goc, rfl⟩ := Option.map_eq_some_iff.1 g
      have hlt := (List.getElem?_eq_some_iff.1 goc).1
      have gc : (hc.news os).get (hc.next + (k - h.next)) = some oc := by
        rw [news_get (fun p hp => by rw [c1] at hp; cases hp), if_neg (by omega), show hc.next + (k - h.next) - hc.next = k - h.next from by omega]
        exact goc
      have E := S.rel.ent _ _ gc
      have hp : plainO oc = true := List.all_eq_true.1 hos oc (List.mem_of_getElem? goc)
      have hoo := hos2 oc (List.mem_of_getElem? goc)
      have hφk : φ2 k = φ' (hc.next + (k - h.next)) := by
        show (if _ then _ else if _ then _ else _) = _
        rw [if_neg hk, if_pos (by omega)]
      have hκk : κ2 k = κ' (hc.next + (k - h.next)) := by
        show (if _ then _ else if _ then _ else _) = _
        rw [if_neg hk, if_pos (by omega)]
      cases oc with
      | cells bc =>
        refine ⟨fun hz => ?_, fun hz => ?_⟩
        · rw [hκk] at hz
          have := E.1 hz
          rw [this]; rfl
        rw [hκk] at hz
        obtain ⟨c, el, fz, e1, e1z, e0, e2, e3, e4⟩ := E.2 hz
        refine ⟨c, el, fz, by rw [hφk]; exact e1, e1z, by rw [hφk, mwL_map, List.length_map]; exact e0, fun j x hj => ?_, fun x hx => ?_, fun ho => by rw [hφk, hκk]; exact e4 ho⟩
        · simp only [mwL_map, List.getElem?_map] at hj
          obtain ⟨y, hy, rfl⟩ := Option.map_eq_some_iff.1 hj
          rw [hφk, ← hren y (e3 y (List.mem_of_getElem? hy)) (okML_iff.1 hoo y (List.mem_of_getElem? hy))]
          exact e2 j y hy
        · simp only [mwL_map] at hx
          obtain ⟨y, hy, rfl⟩ := List.mem_map.1 hx
          exact mw_ok hN2 hκ2 y (e3 y hy)
      | map es cl =>
        obtain ⟨e1, e2, e3⟩ := E
        refine ⟨by rw [hφk]; exact e1, ?_, fun y hy => ?_⟩
        · rw [hφk, e2, List.map_map]
          congr 3
          apply List.map_congr_left
          intro y hy
          simp only [Function.comp_apply, renE, mwE]
          rw [hren _ (e3 y hy).1 (hoo y hy).1, hren _ (e3 y hy).2 (hoo y hy).2]
        · obtain ⟨z, hz, rfl⟩ := List.mem_map.1 hy
          exact ⟨mw_ok hN2 hκ2 _ (e3 z hz).1, mw_ok hN2 hκ2 _ (e3 z hz).2⟩
      | loop r => cases hp
      | deferred o => cases hp
      | iter m s q l => cases hp
  · rw [news_wlim] at hk
    rw [news_get R.hid] at g
    split at g
    · rename_i hlt
      have : φ2 k = φ k := if_pos hlt
      rw [this]
      exact R.own k o g (rl_congr (show κ2 k = κ k from if_pos hlt) hr) hk
    · rename_i hge
      rw [List.getElem?_map] at g
      obtain ⟨oc, goc, rfl⟩ := Option.map_eq_some_iff.1 g
      have hlt := (List.getElem?_eq_some_iff.1 goc).1
      have gc : (hc.news os).get (hc.next + (k - h.next)) = some oc := by
        rw [news_get (fun p hp => by rw [c1] at hp; cases hp), if_neg (by omega), show hc.next + (k - h.next) - hc.next = k - h.next from by omega]
        exact goc
      have hκk : κ2 k = κ' (hc.next + (k - h.next)) := by
        show (if _ then _ else if _ then _ else _) = _
        rw [if_neg hge, if_pos (by omega)]
      have := S.rel.own _ _ gc (rl_mwO hκk hr) (by rw [news_wlim, c2]; omega)
      have hφk : φ2 k = φ' (hc.next + (k - h.next)) := by
        show (if _ then _ else if _ then _ else _) = _
        rw [if_neg hge, if_pos (by omega)]
      rw [hφk]
      have := R.below.size
      omega
  · rw [news_wlim] at hk
    -- where a name's block lies
    have split : ∀ k o, (h.news (os.map (mwO (psi1 ψ hc.next h.next)))).get k = some o → rl κ2 k o → (k < h.next ∧ h.get k = some o ∧ rl κ k o ∧ φ2 k = φ k ∧ (φ k).1 < w.heap.size) ∨ (¬ k < h.next ∧ ∃ oc, (hc.news os).get (hc.next + (k - h.next)) = some oc ∧ rl κ' (hc.next + (k - h.next)) oc ∧ φ2 k = φ' (hc.next + (k - h.next)) ∧ w.heap.size ≤ (φ' (hc.next + (k - h.next))).1) := by
      intro k o g hr
      rw [news_get R.hid] at g
      split at g
      · rename_i hlt
        have hr1 : rl κ k o := rl_congr (show κ2 k = κ k from if_pos hlt) hr
        exact .inl ⟨hlt, g, hr1, if_pos hlt, (R.ent k o g).lt hr1⟩
      · rename_i hge
        rw [List.getElem?_map] at g
        obtain ⟨oc, goc, rfl⟩ := Option.map_eq_some_iff.1 g
        have hlt := (List.getElem?_eq_some_iff.1 goc).1
        have gc : (hc.news os).get (hc.next + (k - h.next)) = some oc := by
          rw [news_get (fun p hp => by rw [c1] at hp; cases hp), if_neg (by omega), show hc.next + (k - h.next) - hc.next = k - h.next from by omega]
          exact goc
        have hκk : κ2 k = κ' (hc.next + (k - h.next)) := by
          show (if _ then _ else if _ then _ else _) = _
          rw [if_neg hge, if_pos (by omega)]
        have hr1 := rl_mwO hκk hr
        refine .inr ⟨hge, oc, gc, hr1, ?_, S.rel.own _ _ gc hr1 (by rw [news_wlim, c2]; omega)⟩
        show (if _ then _ else if _ then _ else _) = _
        rw [if_neg hge, if_pos (by omega)]
    rcases split k o g hr with ⟨a1, a2, a5, a3, a4⟩ | ⟨a1, oc, a2, a5, a3, a4⟩
    · rcases split k' o' g' hr' with ⟨b1, b2, b5, b3, b4⟩ | ⟨b1, oc', b2, b5, b3, b4⟩
      · rw [a3, b3] at e
        exact R.inj k k' o o' a2 b2 a5 b5 hk e
      · rw [a3, b3] at e
        omega
    · rcases split k' o' g' hr' with ⟨b1, b2, b5, b3, b4⟩ | ⟨b1, oc', b2, b5, b3, b4⟩
      · rw [a3, b3] at e
        omega
      · rw [a3, b3] at e
        have := S.rel.inj _ _ _ _ a2 b2 a5 b5 (by rw [news_wlim, c2]; omega) e
        omega
end Go.Vm

/- VmU0: A machine for closed runs: equality of structs whose cells are integers and bools. -/
namespace Go.Vm
open Go Go.RowKit

/-- Equality of two cells; the first says whether they are bools, or integers. -/
def cellEq : Bool → Value → Value → Option Bool
  | false, .int k a, .int k' b => if k = k' then some (decide (a = b)) else none
  | true, .bool a, .bool b => some (a == b)
  | _, _, _ => none
def cellsEq : List Bool → List Value → List Value → Option Bool
  | [], [], [] => some true
  | k :: ks, x :: xs, y :: ys => match cellEq k x y, cellsEq ks xs ys with
    | some a, some b => some (a && b)
    | _, _ => none
  | _, _, _ => none
theorem cellsEq_cons {k : Bool} {ks : List Bool} {x y : Value} {xs ys : List Value} {r : Bool} (h : cellsEq (k :: ks) (x :: xs) (y :: ys) = some r) : ∃ a b, cellEq k x y = some a ∧ cellsEq ks xs ys = some b ∧ r = (a && b) := by
  simp only [cellsEq] at h
  split at h
  · rename_i a b h1 h2
    injection h with h
    exact ⟨a, b, h1, h2, h.symm⟩
  · cases h
theorem cellsEq_len : ∀ {ks : List Bool} {x y : List Value} {r : Bool}, cellsEq ks x y = some r → x.length = ks.length ∧ y.length = ks.length
  | [], [], [], _, _ => ⟨rfl, rfl⟩
  | [], _ :: _, _, _, h => by simp [cellsEq] at h
  | [], [], _ :: _, _, h => by simp [cellsEq] at h
  | _ :: _, [], _, _, h => by simp [cellsEq] at h
  | _ :: _, _ :: _, [], _, h => by simp [cellsEq] at h
  | k :: ks, x :: xs, y :: ys, r, h => by
    obtain ⟨a, b, _, h2, _⟩ := cellsEq_cons h
    have := cellsEq_len h2
    simp [this]
theorem cellsEq_append : ∀ {k1 k2 : List Bool} {x y : List Value} {r : Bool}, cellsEq (k1 ++ k2) x y = some r → ∃ r1 r2, cellsEq k1 (x.take k1.length) (y.take k1.length) = some r1 ∧ cellsEq k2 (x.drop k1.length) (y.drop k1.length) = some r2 ∧ r = (r1 && r2)
  | [], k2, x, y, r, h => ⟨true, r, by simp [cellsEq], by simpa using h, by simp⟩
  | k :: k1, k2, x, y, r, h => by
    obtain ⟨e1, e2⟩ := cellsEq_len h
    match x, y, e1, e2 with
    | x :: xs, y :: ys, _, _ =>
      obtain ⟨p, q, h1, h2, rfl⟩ := cellsEq_cons (ks := k1 ++ k2) h
      obtain ⟨r1, r2, h3, h4, rfl⟩ := cellsEq_append h2
      refine ⟨p && r1, r2, ?_, by simpa using h4, by rw [Bool.and_assoc]⟩
      simp only [List.length_cons, List.take_succ_cons, cellsEq, h1, h3]

def flatFsG (P : Program) (g : TypeId → Option (List Bool)) : List Field → Nat → Option (List Bool)
  | [], _ => some []
  | f :: r, o => if f.name = "_" ∨ f.offset ≠ o then none else match g f.type, P.info? f.type with
    | some ks, some i => if i.size = ks.length then match flatFsG P g r (o + ks.length) with
      | some ks' => some (ks ++ ks')
      | none => none
      else none
    | _, _ => none
/-- The cells of a type, each a bool or an integer. -/
def flatN (P : Program) : Nat → TypeId → Option (List Bool)
  | 0, _ => none
  | d + 1, t => match P.underlying t with
    | some .bool => some [true]
    | some (.int _) => some [false]
    | some (.struct fs) => if P.stoodInHeld t then none else flatFsG P (flatN P d) fs.toList 0
    | _ => none

def isStructT (P : Program) (t : TypeId) : Bool := match P.underlying t with
  | some (.struct _) => true
  | _ => false
/-- A value of such a type, off its cells. -/
def ofCells (P : Program) (t : TypeId) (x : List Value) : Value := if isStructT P t then .agg ⟨x⟩ else x.headD undef

theorem pureRun_pure {P : Program} {α : Type} (a : α) : pureRun P (pure a : Sem α) = some a := rfl
theorem cellsEq_no : ∀ {ks : List Bool} {x y : List Value} {r : Bool}, cellsEq ks x y = some r → noAddrL x = true ∧ noAddrL y = true
  | [], [], [], _, _ => ⟨rfl, rfl⟩
  | [], _ :: _, _, _, h => by simp [cellsEq] at h
  | [], [], _ :: _, _, h => by simp [cellsEq] at h
  | _ :: _, [], _, _, h => by simp [cellsEq] at h
  | _ :: _, _ :: _, [], _, h => by simp [cellsEq] at h
  | k :: ks, x :: xs, y :: ys, r, h => by
    obtain ⟨a, b, h1, h2, _⟩ := cellsEq_cons h
    have := cellsEq_no h2
    simp only [noAddrL, this.1, this.2, Bool.and_true]
    unfold cellEq at h1
    split at h1
    · exact ⟨rfl, rfl⟩
    · exact ⟨rfl, rfl⟩
    · cases h1

section
variable {P : Program}
theorem pr_part {t : TypeId} {d : TypeDesc} {i : TypeInfo} {n : Nat} (hu : P.underlying t = some d) (hi : P.info? t = some i) (hn : i.size = n) (hd : isAggD d = isStructT P t) (h1 : isStructT P t = false → n = 1) (xs : Array Value) (o : Nat) (hl : o + n ≤ xs.size) :
    pureRun P (part t xs o) = some (ofCells P t ((xs.toList.drop o).take n)) := by
  unfold part isAgg
  have e1 : pureRun P (underlying t) = some d := by simp only [underlying, program, pureRun, hu, pureRun_bind, pureRun_pure, Option.bind_some]
  have e2 : pureRun P (sizeOf t) = some n := by simp only [sizeOf, typeInfo, program, pureRun, hi, pureRun_bind, pureRun_pure, Option.bind_some, hn]
  simp only [pureRun_bind, e1, Option.bind_some]
  unfold ofCells
  cases hs : isStructT P t with
  | true =>
    rw [hs] at hd
    have : (match d with | .struct _ | .array _ _ => (pure true : Sem Bool) | _ => pure false) = pure true := by cases d <;> simp [isAggD] at hd <;> rfl
    cases d <;> simp [isAggD] at hd
    all_goals
      simp only [pureRun_pure, Option.bind_some, if_true, e2, pureRun_bind]
      congr 2
      apply Array.ext'
      rw [Array.toList_extract]
      simp [List.extract]
  | false =>
    rw [hs] at hd
    obtain rfl := h1 hs
    have hx : xs[o]? = some (xs[o]'(by omega)) := Array.getElem?_eq_getElem (by omega)
    have : (xs.toList.drop o).take 1 = [xs[o]'(by omega)] := by
      rw [List.drop_eq_getElem_cons (by simp; omega)]
      simp
    cases d <;> simp [isAggD] at hd
    all_goals
      simp only [pureRun_pure, Option.bind_some, Bool.false_eq_true, if_false, hx, this]
      rfl

theorem flat_leaf {d : Nat} {t : TypeId} {ks : List Bool} (h : flatN P d t = some ks) : (isStructT P t = false → ks.length = 1) ∧ ∃ dd, P.underlying t = some dd ∧ isAggD dd = isStructT P t := by
  cases d with
  | zero => unfold flatN at h; cases h
  | succ d =>
    unfold flatN at h
    split at h
    · rename_i hu
      injection h with h
      subst h
      exact ⟨fun _ => rfl, _, hu, by simp [isStructT, hu, isAggD]⟩
    · rename_i k hu
      injection h with h
      subst h
      exact ⟨fun _ => rfl, _, hu, by simp [isStructT, hu, isAggD]⟩
    · rename_i fs hu
      refine ⟨fun hs => ?_, _, hu, by simp [isStructT, hu, isAggD]⟩
      simp [isStructT, hu] at hs
    · cases h

theorem eq_int (D : Nat) {t : TypeId} {k0 : IntKind} (hu : P.underlying t = some (.int k0)) (k : IntKind) (a b : Int) : pureRun P (Op.equalIn (D + 1) t (.int k a) (.int k b)) = some (decide (a = b)) := by
  simp only [Op.equalIn, pureRun_bind, underlying, program, pureRun, hu, pureRun_pure, Option.bind_some, if_true]
  rw [Bool.beq_eq_decide_eq]
theorem eq_bool (d : Nat) {t : TypeId} (hu : P.underlying t = some .bool) (a b : Bool) : pureRun P (Op.equalIn (d + 1) t (.bool a) (.bool b)) = some (a == b) := by
  simp only [Op.equalIn, pureRun_bind, underlying, program, pureRun, hu, pureRun_pure, Option.bind_some]

theorem eq_flat : ∀ (d : Nat) (t : TypeId) (ks : List Bool), flatN P d t = some ks → ∀ (D : Nat) (x y : List Value) (r : Bool), cellsEq ks x y = some r → pureRun P (Op.equalIn (D + d) t (ofCells P t x) (ofCells P t y)) = some r := by
  intro d
  induction d with
  | zero => intro t n h; unfold flatN at h; cases h
  | succ d ih =>
    intro t ks h D x y r hr
    unfold flatN at h
    split at h
    · rename_i hu
      injection h with h
      subst h
      obtain ⟨hx, hy⟩ := cellsEq_len hr
      obtain ⟨a, rfl⟩ := List.length_eq_one_iff.1 hx
      obtain ⟨b, rfl⟩ := List.length_eq_one_iff.1 hy
      obtain ⟨p, q, h1, h2, rfl⟩ := cellsEq_cons hr
      simp only [cellsEq, Option.some.injEq] at h2
      subst h2
      have hs : isStructT P t = false := by simp [isStructT, hu]
      simp only [ofCells, hs, Bool.false_eq_true, if_false, List.headD_cons, Bool.and_true]
      unfold cellEq at h1
      split at h1
      · exact absurd (by assumption : true = false) (by simp)
      · injection h1 with h1
        subst h1
        exact eq_bool (D + d) hu _ _
      · cases h1
    · rename_i k0 hu
      injection h with h
      subst h
      obtain ⟨hx, hy⟩ := cellsEq_len hr
      obtain ⟨a, rfl⟩ := List.length_eq_one_iff.1 hx
      obtain ⟨b, rfl⟩ := List.length_eq_one_iff.1 hy
      obtain ⟨p, q, h1, h2, rfl⟩ := cellsEq_cons hr
      simp only [cellsEq, Option.some.injEq] at h2
      subst h2
      have hs : isStructT P t = false := by simp [isStructT, hu]
      simp only [ofCells, hs, Bool.false_eq_true, if_false, List.headD_cons, Bool.and_true]
      unfold cellEq at h1
      split at h1
      · split at h1
        · rename_i hk
          injection h1 with h1
          subst h1 hk
          exact eq_int (D + d) hu _ _ _
        · cases h1
      · exact absurd (by assumption : false = true) (by simp)
      · cases h1
    · rename_i fs hu
      split at h
      · cases h
      · rename_i hst
        have hst' : P.stoodInHeld t = false := by simpa using hst
        have hs : isStructT P t = true := by simp [isStructT, hu]
        simp only [ofCells, hs, if_true]
        show pureRun P (Op.equalIn (D + d + 1) t (.agg ⟨x⟩) (.agg ⟨y⟩)) = some r
        simp only [Op.equalIn, pureRun_bind, underlying, program, pureRun, hu, pureRun_pure, Option.bind_some, hst', Bool.false_eq_true, if_false]
        rw [← Array.forIn_toList]
        -- field by field
        have key : ∀ (l : List Field) (o : Nat) (ks : List Bool) (r : Bool), o ≤ x.length → o ≤ y.length → flatFsG P (flatN P d) l o = some ks → cellsEq ks (x.drop o) (y.drop o) = some r →
            ∃ s, pureRun P (forIn l ((none : Option Bool), ()) fun f __s => if f.name ≠ "_" then do
              let a ← part f.type ⟨x⟩ f.offset
              let b ← part f.type ⟨y⟩ f.offset
              let c ← Op.equalIn (D + d) f.type a b
              if (!c) = true then pure (ForInStep.done (some false, ())) else pure (ForInStep.yield (none, ()))
              else pure (ForInStep.yield (none, ()))) = some s ∧ ((s.1 = some false ∧ r = false) ∨ (s.1 = none ∧ r = true)) := by
          intro l
          induction l with
          | nil =>
            intro o ks r l1 l2 h1 h2
            unfold flatFsG at h1
            injection h1 with h1
            subst h1
            obtain ⟨e1, e2⟩ := cellsEq_len h2
            rw [List.length_eq_zero_iff.1 e1, List.length_eq_zero_iff.1 e2] at h2
            simp only [cellsEq, Option.some.injEq] at h2
            exact ⟨(none, ()), rfl, .inr ⟨rfl, h2.symm⟩⟩
          | cons f l ihl =>
            intro o ks r l1 l2 h1 h2
            unfold flatFsG at h1
            split at h1
            · cases h1
            · rename_i hf
              have hn : f.name ≠ "_" := fun e => hf (.inl e)
              have ho : f.offset = o := Decidable.byContradiction fun e => hf (.inr e)
              split at h1
              · rename_i k1 i hk1 hi
                split at h1
                · rename_i hsz
                  split at h1
                  · rename_i k2 hk2
                    injection h1 with h1
                    subst h1
                    obtain ⟨r1, r2, q1, q2, rfl⟩ := cellsEq_append h2
                    obtain ⟨e1, e2⟩ := cellsEq_len h2
                    simp only [List.length_append, List.length_drop] at e1 e2
                    obtain ⟨g1, dd, g2, g3⟩ := flat_leaf hk1
                    have hp1 := pr_part (P := P) g2 hi hsz g3 g1 ⟨x⟩ o (by simp; omega)
                    have hp2 := pr_part (P := P) g2 hi hsz g3 g1 ⟨y⟩ o (by simp; omega)
                    have hp3 := ih f.type k1 hk1 D _ _ r1 q1
                    rw [List.forIn_cons]
                    simp only [ne_eq, hn, not_false_eq_true, if_true, pureRun_bind, ho]
                    rw [hp1, hp2]
                    simp only [Option.bind_some, hp3]
                    cases r1 with
                    | false => exact ⟨(some false, ()), rfl, .inl ⟨rfl, rfl⟩⟩
                    | true =>
                      simp only [Bool.not_true, Bool.false_eq_true, if_false, pureRun_pure, Option.bind_some, Bool.true_and]
                      rw [List.drop_drop, List.drop_drop] at q2
                      exact ihl _ _ _ (by omega) (by omega) hk2 q2
                  · cases h1
                · cases h1
              · cases h1
        obtain ⟨s, s1, s2⟩ := key fs.toList 0 ks r (Nat.zero_le _) (Nat.zero_le _) h (by simpa using hr)
        rw [s1]
        simp only [Option.bind_some]
        rcases s2 with ⟨a, b⟩ | ⟨a, b⟩
        · rw [a, b]; rfl
        · rw [a, b]; rfl
    · cases h
end
end Go.Vm

/- VmV: A machine for closed runs, twenty-second part: operations with all that types say of them written out, and what each of them asks. -/
namespace Go.Vm
open Go Go.RowKit

/-- Slots, the latest first. -/
abbrev Fr := List (Nat × Value)
def lk : Fr → Nat → Option Value
  | [], _ => none
  | (d, v) :: r, n => if d = n then some v else lk r n
def trOf : Fr → Tr Value
  | [] => .leaf
  | (d, v) :: r => (trOf r).put d (some v)
theorem trOf_get : ∀ (l : Fr) (n : Nat), (trOf l).get n = lk l n
  | [], _ => rfl
  | (d, v) :: r, n => by
    simp only [trOf, lk, Tr.get_put, trOf_get r n]
    by_cases e : d = n
    · rw [if_pos e.symm, if_pos e]
    · rw [if_neg (fun x => e x.symm), if_neg e]

inductive X where
  | t (n : Nat)
  | k (v : Value)
  | f (n : FuncId)
def X.ev (l : Fr) : X → Option Value
  | .t n => lk l n
  | .k v => some v
  | .f n => some (.func (.func n) #[] #[])
def rX : Operand → Option X
  | .tmp n => some (.t n)
  | .const v => if noAddr v then some (.k v) else none
  | .func f => some (.f f)
  | .global _ => none
theorem ev_of {l : Fr} {o : Operand} {x : X} (hx : rX o = some x) {v : Value} (e : x.ev l = some v) : aEnv (trOf l) o = some v := by
  cases o with
  | tmp n => simp only [rX, Option.some.injEq] at hx; subst hx; simpa only [aEnv, trOf_get, X.ev] using e
  | const u =>
    simp only [rX] at hx
    split at hx
    · rename_i hn
      injection hx with hx
      subst hx
      simpa [aEnv, hn, X.ev] using e
    · cases hx
  | func f => simp only [rX, Option.some.injEq] at hx; subst hx; simpa only [aEnv, X.ev] using e
  | global g => cases hx
def evs (l : Fr) : List X → Option (List Value)
  | [] => some []
  | x :: r => match x.ev l, evs l r with
    | some v, some vs => some (v :: vs)
    | _, _ => none
def rXs : List Operand → Option (List X)
  | [] => some []
  | x :: r => match rX x, rXs r with
    | some v, some vs => some (v :: vs)
    | _, _ => none
theorem evs_of {l : Fr} : ∀ {os : List Operand} {xs : List X}, rXs os = some xs → ∀ {vs : List Value}, evs l xs = some vs → aArgs (aEnv (trOf l)) os = some vs
  | [], xs, hx, vs, e => by
    simp only [rXs, Option.some.injEq] at hx
    subst hx
    simpa [evs, aArgs] using e
  | o :: os, xs, hx, vs, e => by
    simp only [rXs] at hx
    split at hx
    · rename_i x xs' h1 h2
      injection hx with hx
      subst hx
      simp only [evs] at e
      split at e
      · rename_i v vs' h3 h4
        injection e with e
        subst e
        simp only [aArgs, ev_of h1 h3, evs_of h2 h4]
      · cases e
    · cases hx

/-- A condition, and what is to hold besides. -/
def chk (p K : Prop) : Prop := p ∧ K
theorem chk_true {p K : Prop} (h : p) : chk p K = K := propext ⟨fun x => x.2, fun x => ⟨h, x⟩⟩
theorem chk.intro {p K : Prop} (h : p) (k : K) : chk p K := ⟨h, k⟩

def inR (k : IntKind) (n : Int) : Prop :=
  match k with
  | .i64 => -9223372036854775808 ≤ n ∧ n ≤ 9223372036854775807
  | .u64 => 0 ≤ n ∧ n ≤ 18446744073709551615
  | .u8 => 0 ≤ n ∧ n ≤ 255
  | .i32 => -2147483648 ≤ n ∧ n ≤ 2147483647
  | .u32 => 0 ≤ n ∧ n ≤ 4294967295
  | .u16 => 0 ≤ n ∧ n ≤ 65535
  | .i16 => -32768 ≤ n ∧ n ≤ 32767
  | .i8 => -128 ≤ n ∧ n ≤ 127
theorem wrap_inR {k : IntKind} {n : Int} (h : inR k n) : k.wrap n = n := by
  cases k <;> simp only [inR] at h <;> simp [IntKind.wrap, IntKind.signed, IntKind.bits] <;> omega

def arI (op : BinOp) (a b : Int) : Int :=
  match op with
  | .add => a + b
  | .sub => a - b
  | _ => a * b
def cmI (op : BinOp) (a b : Int) : Bool :=
  match op with
  | .eql => decide (a = b)
  | .neq => !decide (a = b)
  | .lss => decide (a < b)
  | .leq => decide (a ≤ b)
  | .gtr => decide (b < a)
  | _ => decide (b ≤ a)
def dvI (op : BinOp) (a b : Int) : Int :=
  match op with
  | .quo => a.tdiv b
  | _ => a.tmod b
def btI (op : BinOp) (k : IntKind) (a b : Int) : Int :=
  match op with
  | .and => k.wrap (BitVec.ofInt k.bits a &&& BitVec.ofInt k.bits b).toNat
  | .or => k.wrap (BitVec.ofInt k.bits a ||| BitVec.ofInt k.bits b).toNat
  | .xor => k.wrap (BitVec.ofInt k.bits a ^^^ BitVec.ofInt k.bits b).toNat
  | _ => k.wrap (BitVec.ofInt k.bits a &&& ~~~(BitVec.ofInt k.bits b)).toNat
def shI (op : BinOp) (k : IntKind) (a b : Int) : Int :=
  match op with
  | .shl => k.wrap (a * 2 ^ (min b.toNat k.bits))
  | _ => a.fdiv (2 ^ (min b.toNat k.bits))

inductive I where
  | mv (x : X)
  | pick (c a b : X)
  | nilck (x : X)
  | ar (op : BinOp) (x y : X)
  | cmp (op : BinOp) (x y : X)
  | cmpb (neg : Bool) (x y : X)
  | eqs (neg : Bool) (ks : List Bool) (x y : X)
  | div (op : BinOp) (x y : X)
  | bits (op : BinOp) (x y : X)
  | shf (op : BinOp) (x y : X)
  | not (x : X)
  | neg (x : X)
  | conv (k : IntKind) (x : X)
  | fad (off : Nat) (x : X)
  | iad (sz : Nat) (x i : X)
  | iada (n sz : Nat) (x i : X)
  | ldc (x : X)
  | lda (n : Nat) (x : X)
  | st (n : Nat) (x v : X)
  | box (x : X)
  | alloc (z : List Value)
  | ext (x : X) (i : Nat)
  | fldc (off : Nat) (x : X)
  | flda (off n : Nat) (x : X)
  | bld (z : List Value) (ps : List (Nat × Nat × X))
  | bsl (sz len : Nat) (z : List Value) (ps : List (Nat × X))
  | len (x : X)
  | app (sz bytes : Nat) (x y : X)
  | mm (lt : Bool) (xs : List X)
  | mkf (f : FuncId) (first captured : List X)
  | mks (sz : Nat) (z : List Value) (l c : X)
  | call (f : X) (args : List X)
  | gen (o : Op)

def isAr : BinOp → Bool
  | .add | .sub | .mul => true
  | _ => false
def isCm : BinOp → Bool
  | .eql | .neq | .lss | .leq | .gtr | .geq => true
  | _ => false
def isDv : BinOp → Bool
  | .quo | .rem => true
  | _ => false
def isBt : BinOp → Bool
  | .and | .or | .xor | .andNot => true
  | _ => false
def isSh : BinOp → Bool
  | .shl | .shr => true
  | _ => false

/-- What one cell holds. -/
def cellAt (h : AH) (k o : Nat) : Option Value :=
  match h.get k with
  | some (.cells b) => b.cells[o]?
  | _ => none
def cellsAt (h : AH) (k o n : Nat) : Option (List Value) :=
  match h.get k with
  | some (.cells b) => if o + n ≤ b.cells.length then some ((b.cells.drop o).take n) else none
  | _ => none
def addOff (o n : Nat) : Nat := if n = 0 then o else o + n
/-- A store. -/
def stAt (h : AH) (k o : Nat) (vs : List Value) : Option AH :=
  match h.get k with
  | some (.cells b) => if b.esz = 0 then none else some (h.put k (some (.cells { b with cells := writeAt b.cells o vs })))
  | _ => none
def lenAt (h : AH) (k : Nat) : Nat :=
  match h.get k with
  | some (.cells b) => b.cells.length
  | _ => 0

def mmI (lt : Bool) : Int → List Int → Int
  | a, [] => a
  | a, b :: r => mmI lt (if lt then min a b else max a b) r
/-- Integers of one kind. -/
def intsOf (k : IntKind) : List Value → Option (List Int)
  | [] => some []
  | .int k' n :: r => if k' = k then (intsOf k r).map (n :: ·) else none
  | _ => none

def fillC (z : List Value) : List (Nat × Nat × Value) → Option (List Value)
  | [] => some z
  | (off, n, v) :: r => if v.cells.size = n ∧ off + n ≤ z.length then fillC (writeAt z off v.cells.toList) r else none

def evP (l : Fr) : List (Nat × Nat × X) → Option (List (Nat × Nat × Value))
  | [] => some []
  | (a, n, x) :: r => match x.ev l, evP l r with
    | some v, some vs => some ((a, n, v) :: vs)
    | _, _ => none
def evB (l : Fr) (sz : Nat) : List (Nat × X) → Option (List (Nat × Nat × Value))
  | [] => some []
  | (i, x) :: r => match x.ev l, evB l sz r with
    | some v, some vs => some ((i * sz, sz, v) :: vs)
    | _, _ => none
def evO (l : Fr) : Option X → Option (Option Value)
  | none => some none
  | some x => match x.ev l with
    | some v => some (some v)
    | none => none

/-- The elements of a slice that is appended, as cells. -/
def sCells (h : AH) (sz : Nat) : Value → Option (List Value)
  | .slice none n _ => if n = 0 then some [] else none
  | .slice (some ⟨k, o, none⟩) n _ => if n = 0 then some [] else cellsAt h k o (n * sz)
  | _ => none
def slen : Value → Nat
  | .slice _ n _ => n
  | _ => 0
theorem slen_slice (a : Option Addr) (n c : Nat) : slen (.slice a n c) = n := rfl

/-- Appending so many elements, at least one. -/
def appN (h : AH) (sz bytes : Nat) (base : Option Addr) (n c ne : Nat) (new : List Value) (K : Value → AH → Prop) : Prop :=
  if c < openB then
    if n + ne ≤ c then
      match base with
      | some ⟨k, o, none⟩ => chk (h.wlim ≤ k ∧ o + n * sz + ne * sz ≤ lenAt h k) (new.all Value.oneCell' = true ∧ match stAt h k (o + n * sz) new with
        | some h' => K (.slice base (n + ne) c) h'
        | none => False)
      | _ => False
    else match sCells h sz (.slice base n c) with
      | some old => chk ((2 * (n + ne) + 1024) * bytes ≤ 281474976710656) (K (.slice (some ⟨h.next, 0, none⟩) (n + ne) openB) (h.new (.cells ⟨old ++ new, sz, true⟩)))
      | none => False
  else match base with
    | some ⟨k, o, none⟩ => match h.get k with
      | some (.cells b) => chk (h.wlim ≤ k ∧ o = (c - openB) * sz ∧ (2 * (n + ne) + 1024) * bytes ≤ 281474976710656) (b.opn = true ∧ b.esz = sz ∧ new.all Value.oneCell' = true ∧ match sCells h sz (.slice base n c) with
        | some old => K (.slice (some ⟨h.next, 0, none⟩) (n + ne) openB) ((h.new (.cells ⟨old ++ new, sz, true⟩)).put k none)
        | none => False)
      | _ => False
    | _ => False
def appK (h : AH) (sz bytes : Nat) (s e : Value) (K : Value → AH → Prop) : Prop :=
  match s, sCells h sz e with
  | .slice base n c, some new => (slen e = 0 → (c < openB ∧ n ≤ c ∨ openB ≤ c ∧ base.isSome = true) ∧ K s h) ∧ (slen e ≠ 0 → appN h sz bytes base n c (slen e) new K)
  | _, _ => False

/-- What an operation asks, and what it leaves. -/
def iStep (P : Program) (w : Bool) (i : I) (l : Fr) (h : AH) (K : Value → AH → Prop) : Prop :=
  match i with
  | .mv x => match x.ev l with
    | some v => K v h
    | none => False
  | .pick c a b => match c.ev l with
    | some (.bool t) => (t = true → match a.ev l with | some v => K v h | none => False) ∧ (t = false → match b.ev l with | some v => K v h | none => False)
    | _ => False
  | .nilck x => match x.ev l with
    | some v => notNil v = true ∧ K v h
    | none => False
  | .ar op x y => match x.ev l, y.ev l with
    | some (.int k a), some (.int k' b) => k = k' ∧ (if w then K (.int k (k.wrap (arI op a b))) h else chk (inR k (arI op a b)) (K (.int k (arI op a b)) h))
    | _, _ => False
  | .cmp op x y => match x.ev l, y.ev l with
    | some (.int k a), some (.int k' b) => k = k' ∧ K (.bool (cmI op a b)) h
    | _, _ => False
  | .cmpb neg x y => match x.ev l, y.ev l with
    | some (.bool a), some (.bool b) => K (.bool (if neg then a != b else a == b)) h
    | _, _ => False
  | .eqs neg ks x y => match x.ev l, y.ev l with
    | some (.agg a), some (.agg b) => match cellsEq ks a.toList b.toList with | some r => K (.bool (if neg then !r else r)) h | none => False
    | _, _ => False
  | .div op x y => match x.ev l, y.ev l with
    | some (.int k a), some (.int k' b) => k = k' ∧ chk (b ≠ 0) (chk (inR k (dvI op a b)) (K (.int k (dvI op a b)) h))
    | _, _ => False
  | .bits op x y => match x.ev l, y.ev l with
    | some (.int k a), some (.int k' b) => k = k' ∧ K (.int k (btI op k a b)) h
    | _, _ => False
  | .shf op x y => match x.ev l, y.ev l with
    | some (.int k a), some (.int _ b) => chk (0 ≤ b) (K (.int k (shI op k a b)) h)
    | _, _ => False
  | .not x => match x.ev l with
    | some (.bool b) => K (.bool !b) h
    | _ => False
  | .neg x => match x.ev l with
    | some (.int k a) => chk (inR k (-a)) (K (.int k (-a)) h)
    | _ => False
  | .conv k x => match x.ev l with
    | some (.int _ a) => if w then K (.int k (k.wrap a)) h else chk (inR k a) (K (.int k a) h)
    | _ => False
  | .fad off x => match x.ev l with
    | some (.pointer (some ⟨k, o, none⟩)) => K (.pointer (some ⟨k, addOff o off, none⟩)) h
    | _ => False
  | .iad sz x i => match x.ev l, i.ev l with
    | some (.slice (some ⟨k, o, none⟩) n _), some (.int _ j) => chk (0 ≤ j ∧ j < (n : Int)) (K (.pointer (some ⟨k, o + j.toNat * sz, none⟩)) h)
    | _, _ => False
  | .iada n sz x i => match x.ev l, i.ev l with
    | some (.pointer (some ⟨k, o, none⟩)), some (.int _ j) => chk (0 ≤ j ∧ j < (n : Int)) (K (.pointer (some ⟨k, o + j.toNat * sz, none⟩)) h)
    | _, _ => False
  | .ldc x => match x.ev l with
    | some (.pointer (some ⟨k, o, none⟩)) => match cellAt h k o with | some v => K v h | none => False
    | _ => False
  | .lda n x => match x.ev l with
    | some (.pointer (some ⟨k, o, none⟩)) => match cellsAt h k o n with | some vs => K (.agg ⟨vs⟩) h | none => False
    | _ => False
  | .st n x v => match x.ev l, v.ev l with
    | some (.pointer (some ⟨k, o, none⟩)), some v => chk (v.cells.size = n ∧ o + n ≤ lenAt h k ∧ h.wlim ≤ k) (v.cells.toList.all Value.oneCell' = true ∧ match stAt h k o v.cells.toList with | some h' => K undef h' | none => False)
    | _, _ => False
  | .box x => match x.ev l with
    | some v => K (pt h.next) (h.new (.cells ⟨v.cells.toList, 1, false⟩))
    | none => False
  | .alloc z => K (pt h.next) (h.new (.cells ⟨z, 1, false⟩))
  | .ext x i => match x.ev l with
    | some (.tuple vs) => match vs[i]? with | some v => K v h | none => False
    | _ => False
  | .fldc off x => match x.ev l with
    | some (.agg cs) => match cs[off]? with | some v => K v h | none => False
    | _ => False
  | .flda off n x => match x.ev l with
    | some (.agg cs) => K (.agg (cs.extract off (off + n))) h
    | _ => False
  | .bld z ps => match evP l ps with
    | some vs => match fillC z vs with | some cs => K (.agg ⟨cs⟩) h | none => False
    | none => False
  | .bsl sz len z ps => match evB l sz ps with
    | some vs => match fillC z vs with | some cs => K (.slice (some ⟨h.next, 0, none⟩) len len) (h.new (.cells ⟨cs, sz, false⟩)) | none => False
    | none => False
  | .len x => match x.ev l with
    | some (.slice _ n _) => K (.int .i64 n) h
    | _ => False
  | .mm lt xs => match evs l xs with
    | some (.int k a :: vs) => match intsOf k vs with | some r => K (.int k (mmI lt a r)) h | none => False
    | _ => False
  | .mkf f first captured => match evs l first, evs l captured with
    | some a, some c => K (.func (.func f) ⟨a⟩ ⟨c⟩) h
    | _, _ => False
  | .mks sz z n c => match n.ev l, c.ev l with
    | some (.int _ n), some (.int _ c) => chk (0 ≤ n ∧ n ≤ c ∧ c ≤ 16777216) (K (.slice (some ⟨h.next, 0, none⟩) n.toNat c.toNat) (h.new (.cells ⟨(List.replicate c.toNat z).flatten, sz, false⟩)))
    | _, _ => False
  | .call f args => match f.ev l, evs l args with
    | some (.func (.func g) first captured), some vs => ∃ v h', Fc P g (first.toList ++ vs ++ captured.toList) h v h' ∧ K v h'
    | some (.func (.yield k) first _), some vs => h.sees k = true ∧ ∃ v h', Yl P k (first.toList ++ vs) h v h' ∧ K v h'
    | _, _ => False
  | .app sz bytes x y => match x.ev l, y.ev l with
    | some s, some e => appK h sz bytes s e K
    | _, _ => False
  | .gen op => match op with
    | .call _ => False
    | op => ∃ v h', aOp P h (aEnv (trOf l)) op = some (v, h') ∧ K v h'

def rPs (P : Program) (pl : Nat → Option (Nat × Nat)) : List (Nat × Operand) → Option (List (Nat × Nat × X))
  | [] => some []
  | (i, o) :: r => match pl i, rX o, rPs P pl r with
    | some (a, n), some x, some l => some ((a, n, x) :: l)
    | _, _, _ => none
def rBs : List (Nat × Operand) → Option (List (Nat × X))
  | [] => some []
  | (i, o) :: r => match rX o, rBs r with
    | some x, some l => some ((i, x) :: l)
    | _, _ => none
def rO : Option Operand → Option (Option X)
  | none => some none
  | some o => (rX o).map some

/-- An operation with all that types say of it written out. -/
def rI (P : Program) (op0 : Op) : Option I :=
  match op0 with
  | .move x | .assign x => match rX x with
    | some x => some (.mv x)
    | none => none
  | .pick c a b => match rX c, rX a, rX b with
    | some c, some a, some b => some (.pick c a b)
    | _, _, _ => none
  | .nilCheck x => match rX x with
    | some x => some (.nilck x)
    | none => none
  | .binOp op xt x y _ => match rX x, rX y, P.underlying xt with
    | some x, some y, some (.int _) =>
      if isAr op then some (.ar op x y) else if isCm op then some (.cmp op x y) else if isDv op then some (.div op x y) else if isBt op then some (.bits op x y) else if isSh op then some (.shf op x y) else none
    | some x, some y, some .bool => match op with
      | .eql => some (.cmpb false x y)
      | .neq => some (.cmpb true x y)
      | _ => none
    | some x, some y, some (.struct _) => match flatN P 20 xt with
      | some ks => if P.eqGuardType P.depth xt then some (.gen op0) else match op with
        | .eql => some (.eqs false ks x y)
        | .neq => some (.eqs true ks x y)
        | _ => none
      | none => some (.gen op0)
    | some _, some _, _ => some (.gen op0)
    | _, _, _ => none
  | .unOp op _ x => match rX x, op with
    | some x, .not => some (.not x)
    | some x, .neg => some (.neg x)
    | _, _ => some (.gen op0)
  | .convert s d x => match rX x, P.underlying s, P.underlying d with
    | some x, some (.int _), some (.int k) => some (.conv k x)
    | _, _, _ => some (.gen op0)
  | .fieldAddr s x f => match rX x, fieldOf P s f with
    | some x, some fd => match P.info? fd.type with
      | some i => if i.size = 0 then none else some (.fad fd.offset x)
      | none => none
    | _, _ => none
  | .indexAddr t x i => match rX x, rX i, P.underlying t with
    | some x, some i, some (.slice e) => match P.info? e with
      | some f => some (.iad f.size x i)
      | none => none
    | some x, some i, some (.array n e) => match P.info? e with
      | some f => some (.iada n f.size x i)
      | none => none
    | _, _, _ => none
  | .load t x => match rX x, P.underlying t, P.info? t with
    | some x, some d, some i => some (if isAggD d then .lda i.size x else .ldc x)
    | _, _, _ => none
  | .store t x v => match rX x, rX v, P.info? t with
    | some x, some v, some i => some (.st i.size x v)
    | _, _, _ => none
  | .box _ x => match rX x with
    | some x => some (.box x)
    | none => none
  | .alloc t => match zeroOf P t with
    | some z => some (.alloc z.cells.toList)
    | none => none
  | .extract x i => match rX x with
    | some x => some (.ext x i)
    | none => none
  | .field t x f => match rX x, fieldOf P t f with
    | some x, some fd => match P.underlying fd.type, P.info? fd.type with
      | some d, some i => some (if isAggD d then .flda fd.offset i.size x else .fldc fd.offset x)
      | _, _ => none
    | _, _ => none
  | .build t ps => match zeroOf P t, P.underlying t with
    | some z, some (.struct fields) => match aPlaces P fields with
      | some pl => match rPs P (pl[·]?) ps.toList with
        | some ps => some (.bld z.cells.toList ps)
        | none => none
      | none => none
    | some z, some (.array _ el) => match P.info? el with
      | some i => match rPs P (fun j => some (j * i.size, i.size)) ps.toList with
        | some ps => some (.bld z.cells.toList ps)
        | none => none
      | none => none
    | _, _ => none
  | .buildSlice t n ps => match P.underlying t with
    | some (.slice el) => match P.info? el, zeroOf P el, rBs ps.toList with
      | some i, some z, some ps => if n * i.size ≤ 16777216 ∧ n ≤ 16777216 then some (.bsl i.size n (zlist z (n * i.size)) ps) else none
      | _, _, _ => none
    | _ => none
  | .makeFunc (.func f) first captured => match rXs first.toList, rXs captured.toList with
    | some a, some c => some (.mkf f a c)
    | _, _ => none
  | .makeSlice t n c => match P.underlying t with
    | some (.slice el) => match P.info? el, zeroOf P el, rX n, rX c with
      | some i, some z, some n, some c => if i.bytes ≤ 16777216 ∧ z.cells.size = i.size then some (.mks i.size z.cells.toList n c) else none
      | _, _, _, _ => none
    | _ => none
  | .call c => match rXs c.args.toList with
    | some args => match c.callee with
      | .value f => match rX f with
        | some f => some (.call f args)
        | none => none
      | .builtin b => match b, args, (c.argTypes[0]?).bind P.underlying, c.argTypes[1]? with
        | .len, [x], some (.slice _), _ => some (.len x)
        | .append, [x, y], some (.slice el), some t1 => match P.underlying t1, P.info? el, zeroOf P el with
          | some (.slice _), some i, some z => if z.cells.size != i.size || i.bytes == 0 || i.size == 0 then none else some (.app i.size i.bytes x y)
          | _, _, _ => none
        | .min, xs, _, _ => some (.mm true xs)
        | .max, xs, _, _ => some (.mm false xs)
        | _, _, _, _ => none
      | .invoke _ _ => none
    | none => none
  | _ => some (.gen op0)
end Go.Vm

/- VmW: A machine for closed runs, twenty-third part: what an operation asks is enough. -/
namespace Go.Vm
open Go Go.RowKit

section
variable {P : Program} {l : Fr} {h h' : AH} {K : Value → AH → Prop}

theorem pr_ar {op : BinOp} (ho : isAr op = true) (t : TypeId) (x y : Operand) (k : IntKind) (a b : Int) :
    pureRun P (do Go.eqGuard op t x y (.int k a) (.int k b); Go.binOp op t (.int k a) (.int k b)) = some (.int k (k.wrap (arI op a b))) := by
  cases op <;> simp [isAr] at ho <;> simp [Go.eqGuard, Go.binOp, Op.intArith, pureRun_pure, arI]
theorem pr_cm {op : BinOp} (ho : isCm op = true) (t : TypeId) (x y : Operand) (k : IntKind) (a b : Int) :
    pureRun P (do Go.eqGuard op t x y (.int k a) (.int k b); Go.binOp op t (.int k a) (.int k b)) = some (.bool (cmI op a b)) := by
  cases op <;> simp [isCm] at ho <;> simp [Go.eqGuard, Go.binOp, Op.intCmp, pureRun_pure, cmI]
  · exact Bool.beq_eq_decide_eq a b
  · rw [bne, Bool.beq_eq_decide_eq a b]
theorem pr_dv {op : BinOp} (ho : isDv op = true) (t : TypeId) (x y : Operand) (k : IntKind) (a b : Int) (hb : b ≠ 0) (hr : inR k (dvI op a b)) :
    pureRun P (do Go.eqGuard op t x y (.int k a) (.int k b); Go.binOp op t (.int k a) (.int k b)) = some (.int k (dvI op a b)) := by
  cases op <;> simp [isDv] at ho <;> simp [Go.eqGuard, Go.binOp, Op.intDiv, dvI, hb] at hr ⊢
  · rw [wrap_inR hr, pureRun_pure]
  · rfl
theorem pr_bt {op : BinOp} (ho : isBt op = true) (t : TypeId) (x y : Operand) (k : IntKind) (a b : Int) :
    pureRun P (do Go.eqGuard op t x y (.int k a) (.int k b); Go.binOp op t (.int k a) (.int k b)) = some (.int k (btI op k a b)) := by
  cases op <;> simp [isBt] at ho <;> simp only [Go.eqGuard, Go.binOp, Op.intBits, btI, ne_eq, not_true_eq_false, if_false, Bool.not_false, if_true, pureRun_bind, pureRun_pure, Option.bind_some]
theorem pr_sh {op : BinOp} (ho : isSh op = true) (t : TypeId) (x y : Operand) (k k' : IntKind) (a b : Int) (hb : 0 ≤ b) :
    pureRun P (do Go.eqGuard op t x y (.int k a) (.int k' b); Go.binOp op t (.int k a) (.int k' b)) = some (.int k (shI op k a b)) := by
  have hb' : ¬ b < 0 := by omega
  cases op <;> simp [isSh] at ho <;> simp [Go.eqGuard, Go.binOp, Op.shift, shI, hb', pureRun_pure]

theorem op_bin {op : BinOp} {xt yt : TypeId} {x y : Operand} {a b v : Value} (hx : aEnv (trOf l) x = some a) (hy : aEnv (trOf l) y = some b) (na : noAddr a = true) (nb : noAddr b = true) (nv : noAddr v = true)
    (e : pureRun P (do Go.eqGuard op xt x y a b; Go.binOp op xt a b) = some v) : aOp P h (aEnv (trOf l)) (.binOp op xt x y yt) = some (v, h) := by
  simp only [aOp, hx, hy, na, nb, Bool.and_self, if_true, e, nv]

theorem foldl_set_get (off : Nat) : ∀ (vs : List Value) (i : Nat) (cs : Array Value) (j : Nat),
    ((vs.zipIdx i).foldl (fun cs (x : Value × Nat) => cs.setIfInBounds (off + x.2) x.1) cs)[j]? = if off + i ≤ j ∧ j < off + i + vs.length ∧ j < cs.size then vs[j - (off + i)]? else cs[j]? := by
  intro vs
  induction vs with
  | nil => intro i cs j; simp; omega
  | cons v vs ih =>
    intro i cs j
    rw [List.zipIdx_cons, List.foldl_cons, ih]
    simp only [Array.size_setIfInBounds, List.length_cons]
    by_cases h1 : off + (i + 1) ≤ j ∧ j < off + (i + 1) + vs.length ∧ j < cs.size
    · rw [if_pos h1, if_pos (by omega), show j - (off + i) = (j - (off + (i + 1))) + 1 from by omega]
      rfl
    · rw [if_neg h1]
      by_cases h2 : j = off + i
      · subst h2
        by_cases h3 : off + i < cs.size
        · rw [Array.getElem?_setIfInBounds_self_of_lt h3, if_pos (by omega)]
          simp
        · rw [if_neg (by omega), Array.getElem?_eq_none (by simpa using h3), Array.getElem?_eq_none (by omega)]
      · rw [Array.getElem?_setIfInBounds_ne (fun e => h2 e.symm), if_neg (by omega)]
theorem fold_writeAt (off : Nat) (v : Array Value) (cs : Array Value) (hl : off + v.size ≤ cs.size) : (v.zipIdx.foldl (fun cs (x : Value × Nat) => cs.setIfInBounds (off + x.2) x.1) cs) = ⟨writeAt cs.toList off v.toList⟩ := by
  rw [← Array.foldl_toList, Array.toList_zipIdx]
  apply Array.ext_getElem?
  intro j
  rw [foldl_set_get]
  have e : (⟨writeAt cs.toList off v.toList⟩ : Array Value)[j]? = (writeAt cs.toList off v.toList)[j]? := List.getElem?_toArray
  rw [e, writeAt_get (by simpa using hl)]
  simp only [Nat.add_zero, Array.length_toList]
  by_cases h1 : off ≤ j ∧ j < off + v.size
  · rw [if_pos ⟨h1.1, h1.2, by omega⟩, if_pos h1]
  · rw [if_neg (by omega), if_neg h1]
    simp

theorem fill_of (pl : Nat → Option (Nat × Nat)) : ∀ (ps : List (Nat × Operand)) (rs : List (Nat × Nat × X)) (vs : List (Nat × Nat × Value)) (z cs : List Value), rPs P pl ps = some rs → evP l rs = some vs → fillC z vs = some cs →
    ∃ us, aParts (aEnv (trOf l)) ps = some us ∧ Instr.fill pl ⟨z⟩ us = some ⟨cs⟩ := by
  intro ps
  induction ps with
  | nil =>
    intro rs vs z cs hr he hf
    simp only [rPs, Option.some.injEq] at hr
    subst hr
    simp only [evP, Option.some.injEq] at he
    subst he
    simp only [fillC, Option.some.injEq] at hf
    subst hf
    exact ⟨[], rfl, rfl⟩
  | cons p ps ih =>
    intro rs vs z cs hr he hf
    obtain ⟨i, o⟩ := p
    simp only [rPs] at hr
    split at hr
    · rename_i a n x r1 h1 h2 h3
      injection hr with hr
      subst hr
      simp only [evP] at he
      split at he
      · rename_i v vs1 h4 h5
        injection he with he
        subst he
        simp only [fillC] at hf
        split at hf
        · rename_i hc
          obtain ⟨us, u1, u2⟩ := ih _ _ _ _ h3 h5 hf
          refine ⟨(i, v) :: us, by simp only [aParts, ev_of h2 h4, u1], ?_⟩
          simp only [Instr.fill, h1]
          rw [if_neg (by have := hc.2; simp [hc.1]; omega)]
          rw [fold_writeAt a v.cells ⟨z⟩ (by simp only [List.size_toArray]; have := hc.1; have := hc.2; omega)]
          exact u2
        · cases hf
      · cases he
    · cases hr

theorem fillB_of (sz : Nat) : ∀ (ps : List (Nat × Operand)) (rs : List (Nat × X)) (vs : List (Nat × Nat × Value)) (z cs : List Value), rBs ps = some rs → evB l sz rs = some vs → fillC z vs = some cs →
    ∃ us, aParts (aEnv (trOf l)) ps = some us ∧ Instr.fill (fun j => some (j * sz, sz)) ⟨z⟩ us = some ⟨cs⟩ := by
  intro ps
  induction ps with
  | nil =>
    intro rs vs z cs hr he hf
    simp only [rBs, Option.some.injEq] at hr
    subst hr
    simp only [evB, Option.some.injEq] at he
    subst he
    simp only [fillC, Option.some.injEq] at hf
    subst hf
    exact ⟨[], rfl, rfl⟩
  | cons p ps ih =>
    intro rs vs z cs hr he hf
    obtain ⟨i, o⟩ := p
    simp only [rBs] at hr
    split at hr
    · rename_i x r1 h2 h3
      injection hr with hr
      subst hr
      simp only [evB] at he
      split at he
      · rename_i v vs1 h4 h5
        injection he with he
        subst he
        simp only [fillC] at hf
        split at hf
        · rename_i hc
          obtain ⟨us, u1, u2⟩ := ih _ _ _ _ h3 h5 hf
          refine ⟨(i, v) :: us, by simp only [aParts, ev_of h2 h4, u1], ?_⟩
          simp only [Instr.fill]
          rw [if_neg (by have := hc.2; simp [hc.1]; omega)]
          rw [fold_writeAt (i * sz) v.cells ⟨z⟩ (by simp only [List.size_toArray]; have := hc.1; have := hc.2; omega)]
          exact u2
        · cases hf
      · cases he
    · cases hr

theorem evO_of {o : Option Operand} {x : Option X} (hx : rO o = some x) {v : Option Value} (e : evO l x = some v) : aOptV (aEnv (trOf l)) o = some v := by
  cases o with
  | none => simp only [rO, Option.some.injEq] at hx; subst hx; simpa [evO, aOptV] using e
  | some o =>
    simp only [rO, Option.map_eq_some_iff] at hx
    obtain ⟨x', h1, rfl⟩ := hx
    simp only [evO] at e
    split at e
    · rename_i u hu
      injection e with e
      subst e
      simp only [aOptV, ev_of h1 hu]
    · cases e

theorem minL {k : IntKind} : ∀ (vs : List Value) (a : Int) (r : List Int), intsOf k vs = some r → pureRun P (vs.foldlM Builtin.min2 (.int k a)) = some (.int k (mmI true a r)) := by
  intro vs
  induction vs with
  | nil => intro a r hr; simp only [intsOf, Option.some.injEq] at hr; subst hr; rfl
  | cons v vs ih =>
    intro a r hr
    cases v with
    | int k' n =>
      simp only [intsOf] at hr
      split at hr
      · rename_i hk
        obtain ⟨r1, h1, rfl⟩ := Option.map_eq_some_iff.1 hr
        rw [List.foldlM_cons, pureRun_bind]
        simp only [Builtin.min2, pureRun_pure, Option.bind_some, mmI, if_true]
        rw [ih _ r1 h1]
        congr 3
        split <;> omega
      · cases hr
    | _ => simp [intsOf] at hr
theorem maxL {k : IntKind} : ∀ (vs : List Value) (a : Int) (r : List Int), intsOf k vs = some r → pureRun P (vs.foldlM Builtin.max2 (.int k a)) = some (.int k (mmI false a r)) := by
  intro vs
  induction vs with
  | nil => intro a r hr; simp only [intsOf, Option.some.injEq] at hr; subst hr; rfl
  | cons v vs ih =>
    intro a r hr
    cases v with
    | int k' n =>
      simp only [intsOf] at hr
      split at hr
      · rename_i hk
        obtain ⟨r1, h1, rfl⟩ := Option.map_eq_some_iff.1 hr
        rw [List.foldlM_cons, pureRun_bind]
        simp only [Builtin.max2, pureRun_pure, Option.bind_some, mmI, Bool.false_eq_true, if_false]
        rw [ih _ r1 h1]
        congr 3
        split <;> omega
      · cases hr
    | _ => simp [intsOf] at hr
theorem ints_noAddrs {k : IntKind} : ∀ (vs : List Value) (r : List Int), intsOf k vs = some r → noAddrs vs = true := by
  intro vs
  induction vs with
  | nil => intro r _; rfl
  | cons v vs ih =>
    intro r hr
    cases v with
    | int k' n =>
      simp only [intsOf] at hr
      split at hr
      · obtain ⟨r1, h1, _⟩ := Option.map_eq_some_iff.1 hr
        simp only [noAddrs, noAddr, Bool.true_and]
        exact ih r1 h1
      · cases hr
    | _ => simp [intsOf] at hr

theorem aFirst_zero (h : AH) (sz : Nat) (n : Nat) (e : Value) (hn : n * sz = 0) (a : Option Addr) (m c : Nat) (he : e = .slice a m c) (ha : ∀ x, a = some x → x.spot = none) : aFirst h sz n e = some [] := by
  subst he
  cases a with
  | none => simp only [aFirst]; rw [if_pos hn]
  | some x =>
    obtain ⟨b, o, s⟩ := x
    obtain rfl : s = none := ha _ rfl
    simp only [aFirst]
    rw [if_pos hn]
theorem aFirst_some (h : AH) (sz : Nat) (n : Nat) (k o m c : Nat) (b : Blk) (hn : ¬ n * sz = 0) (hg : h.get k = some (.cells b)) (hl : o + n * sz ≤ b.cells.length) : aFirst h sz n (.slice (some ⟨k, o, none⟩) m c) = some ((b.cells.drop o).take (n * sz)) := by
  simp only [aFirst]
  rw [if_neg hn, hg]
  simp only
  rw [if_pos hl]
theorem sCells_first {sz : Nat} {e : Value} {new : List Value} (hs : sCells h sz e = some new) : aFirst h sz (slen e) e = some new := by
  unfold sCells at hs
  split at hs
  · rename_i n c
    split at hs
    · rename_i hn
      injection hs with hs
      subst hn hs
      exact aFirst_zero h sz _ _ (by rw [slen_slice]; simp) none _ _ rfl (fun x hx => by cases hx)
    · cases hs
  · rename_i k o n c
    split at hs
    · rename_i hn
      injection hs with hs
      subst hn hs
      exact aFirst_zero h sz _ _ (by rw [slen_slice]; simp) (some ⟨k, o, none⟩) _ _ rfl (fun x hx => by injection hx with hx; subst hx; rfl)
    · unfold cellsAt at hs
      split at hs
      · rename_i b hb
        split at hs
        · rename_i hl
          injection hs with hs
          subst hs
          by_cases h0 : n * sz = 0
          · rw [aFirst_zero h sz _ _ (by rw [slen_slice]; exact h0) (some ⟨k, o, none⟩) n c rfl (fun x hx => by injection hx with hx; subst hx; rfl), h0]
            simp
          · exact aFirst_some h sz _ k o n c b h0 hb hl
        · cases hs
      · cases hs
  · cases hs
end
end Go.Vm

/- VmX: A machine for closed runs, twenty-fourth part: what an operation asks is enough, whole. -/
namespace Go.Vm
open Go Go.RowKit

section
variable {P : Program} {l : Fr} {h h' : AH} {K : Value → AH → Prop} {w : Bool} {i : I}

theorem rStep_op {o : Oper} {ρ : Env} {v : Value} {C : CallR} (hn : ∀ c, o.op ≠ .call c) (e : aOp P h ρ o.op = some (v, h')) : rStep P C h ρ o v h' := by
  unfold rStep
  split
  · rename_i c hc; exact absurd hc (hn c)
  · exact e

theorem zlist_rep (z : Value) (n : Nat) : zlist z (n * z.cells.size) = (List.replicate n z.cells.toList).flatten := by
  induction n with
  | zero => simp [zlist]
  | succ n ih =>
    rw [List.replicate_succ', List.flatten_append, ← ih, Nat.succ_mul]
    unfold zlist
    rw [List.range_add, List.map_append, List.map_map]
    congr 1
    simp only [List.flatten_cons, List.flatten_nil, List.append_nil]
    apply List.ext_getElem?
    intro j
    rw [List.getElem?_map]
    by_cases hj : j < z.cells.size
    · rw [List.getElem?_range hj]
      simp only [Option.map_some, Function.comp_apply]
      rw [show (n * z.cells.size + j) % z.cells.size = j from by rw [Nat.mul_comm, Nat.mul_add_mod, Nat.mod_eq_of_lt hj], getElem!_pos z.cells j hj]
      simp [hj]
    · rw [List.getElem?_eq_none (by simpa using hj), List.getElem?_eq_none (by simpa using hj)]
      rfl
theorem eq_bool' {t : TypeId} (hu : P.underlying t = some .bool) (a b : Bool) : pureRun P (Op.equal t (.bool a) (.bool b)) = some (a == b) := eq_bool 9999 hu a b

/-- The operations that are no calls. -/
theorem iOp_sound (op : Op) (hr : rI P op = some i) (hc : ∀ c, op ≠ .call c) (hk : iStep P w i l h K) : ∃ v h', aOp P h (aEnv (trOf l)) op = some (v, h') ∧ K v h' := by
  have gen : iStep P w (.gen op) l h K → ∃ v h', aOp P h (aEnv (trOf l)) op = some (v, h') ∧ K v h' := by
    intro hk
    simpa only [iStep] using hk
  cases op with
  | call c => exact absurd rfl (hc c)
  | move x =>
    simp only [rI] at hr
    split at hr
    · rename_i x' hx
      injection hr with hr
      subst hr
      simp only [iStep] at hk
      split at hk
      · rename_i v hv
        exact ⟨v, h, by simp only [aOp, ev_of hx hv], hk⟩
      · exact hk.elim
    · cases hr
  | assign x =>
    simp only [rI] at hr
    split at hr
    · rename_i x' hx
      injection hr with hr
      subst hr
      simp only [iStep] at hk
      split at hk
      · rename_i v hv
        exact ⟨v, h, by simp only [aOp, ev_of hx hv], hk⟩
      · exact hk.elim
    · cases hr
  | pick c a b =>
    simp only [rI] at hr
    split at hr
    · rename_i c' a' b' h1 h2 h3
      injection hr with hr
      subst hr
      simp only [iStep] at hk
      split at hk
      · rename_i t ht
        cases t with
        | true =>
          have := hk.1 rfl
          split at this
          · rename_i v hv
            exact ⟨v, h, by simp only [aOp, ev_of h1 ht, if_true, ev_of h2 hv], this⟩
          · exact this.elim
        | false =>
          have := hk.2 rfl
          split at this
          · rename_i v hv
            exact ⟨v, h, by simp only [aOp, ev_of h1 ht, Bool.false_eq_true, if_false, ev_of h3 hv], this⟩
          · exact this.elim
      · exact hk.elim
    · cases hr
  | nilCheck x =>
    simp only [rI] at hr
    split at hr
    · rename_i x' hx
      injection hr with hr
      subst hr
      simp only [iStep] at hk
      split at hk
      · rename_i v hv
        exact ⟨v, h, by simp only [aOp, ev_of hx hv, hk.1, if_true], hk.2⟩
      · exact hk.elim
    · cases hr
  | binOp op xt x y yt =>
    simp only [rI] at hr
    split at hr
    · rename_i x' y' k0 hx hy hu
      split at hr
      · rename_i ho
        injection hr with hr
        subst hr
        simp only [iStep] at hk
        split at hk
        · rename_i k a k' b ha hb
          obtain ⟨rfl, hk⟩ := hk
          refine ⟨.int k (k.wrap (arI op a b)), h, op_bin (ev_of hx ha) (ev_of hy hb) rfl rfl rfl (pr_ar ho _ _ _ _ _ _), ?_⟩
          split at hk
          · exact hk
          · rw [wrap_inR hk.1]; exact hk.2
        · exact hk.elim
      · split at hr
        · rename_i ho
          injection hr with hr
          subst hr
          simp only [iStep] at hk
          split at hk
          · rename_i k a k' b ha hb
            obtain ⟨rfl, hk⟩ := hk
            exact ⟨_, h, op_bin (ev_of hx ha) (ev_of hy hb) rfl rfl rfl (pr_cm ho _ _ _ _ _ _), hk⟩
          · exact hk.elim
        · split at hr
          · rename_i ho
            injection hr with hr
            subst hr
            simp only [iStep] at hk
            split at hk
            · rename_i k a k' b ha hb
              obtain ⟨rfl, h1, h2, hk⟩ := hk
              exact ⟨_, h, op_bin (ev_of hx ha) (ev_of hy hb) rfl rfl rfl (pr_dv ho _ _ _ _ _ _ h1 h2), hk⟩
            · exact hk.elim
          · split at hr
            · rename_i ho
              injection hr with hr
              subst hr
              simp only [iStep] at hk
              split at hk
              · rename_i k a k' b ha hb
                obtain ⟨rfl, hk⟩ := hk
                exact ⟨_, h, op_bin (ev_of hx ha) (ev_of hy hb) rfl rfl rfl (pr_bt ho _ _ _ _ _ _), hk⟩
              · exact hk.elim
            · split at hr
              · rename_i ho
                injection hr with hr
                subst hr
                simp only [iStep] at hk
                split at hk
                · rename_i k a k' b ha hb
                  obtain ⟨h1, hk⟩ := hk
                  exact ⟨_, h, op_bin (ev_of hx ha) (ev_of hy hb) rfl rfl rfl (pr_sh ho _ _ _ _ _ _ _ h1), hk⟩
                · exact hk.elim
              · cases hr
    · rename_i x' y' hx hy hu
      split at hr
      · injection hr with hr
        subst hr
        simp only [iStep] at hk
        split at hk
        · rename_i a b ha hb
          refine ⟨.bool (a == b), h, op_bin (ev_of hx ha) (ev_of hy hb) rfl rfl rfl ?_, by simpa using hk⟩
          simp only [Go.eqGuard, Go.binOp, pureRun_bind]
          rw [eq_bool' hu]
          rfl
        · exact hk.elim
      · injection hr with hr
        subst hr
        simp only [iStep] at hk
        split at hk
        · rename_i a b ha hb
          refine ⟨.bool (a != b), h, op_bin (ev_of hx ha) (ev_of hy hb) rfl rfl rfl ?_, by simpa using hk⟩
          simp only [Go.eqGuard, Go.binOp, pureRun_bind]
          rw [eq_bool' hu]
          rfl
        · exact hk.elim
      · cases hr
    · rename_i x' y' fs hx hy hu
      split at hr
      · rename_i ks hks
        split at hr
        · injection hr with hr
          subst hr
          exact gen hk
        · rename_i hgu
          have hgu' : P.eqGuardType P.depth xt = false := by simpa using hgu
          have hs : isStructT P xt = true := by simp [isStructT, hu]
          have guard : ∀ (op : BinOp) (a b : Array Value), pureRun P (Go.eqGuard op xt x y (.agg a) (.agg b)) = some () := by
            intro op a b
            cases op <;> simp [Go.eqGuard, program, pureRun, pureRun_bind, pureRun_pure, hgu']
          have main : ∀ (a b : Array Value) (r : Bool), cellsEq ks a.toList b.toList = some r → pureRun P (Op.equal xt (.agg a) (.agg b)) = some r := by
            intro a b r hr
            have := eq_flat (P := P) 20 xt ks hks 9980 a.toList b.toList r hr
            unfold ofCells at this
            rw [if_pos hs, if_pos hs] at this
            exact this
          split at hr
          · injection hr with hr
            subst hr
            simp only [iStep] at hk
            split at hk
            · rename_i a b ha hb
              split at hk
              · rename_i r hr
                obtain ⟨n1, n2⟩ := cellsEq_no hr
                refine ⟨.bool r, h, op_bin (ev_of hx ha) (ev_of hy hb) (by obtain ⟨a⟩ := a; exact n1) (by obtain ⟨b⟩ := b; exact n2) rfl ?_, by simpa using hk⟩
                rw [pureRun_bind, guard]
                simp only [Option.bind_some, Go.binOp, pureRun_bind, main a b r hr, pureRun_pure]
              · exact hk.elim
            · exact hk.elim
          · injection hr with hr
            subst hr
            simp only [iStep] at hk
            split at hk
            · rename_i a b ha hb
              split at hk
              · rename_i r hr
                obtain ⟨n1, n2⟩ := cellsEq_no hr
                refine ⟨.bool !r, h, op_bin (ev_of hx ha) (ev_of hy hb) (by obtain ⟨a⟩ := a; exact n1) (by obtain ⟨b⟩ := b; exact n2) rfl ?_, by simpa using hk⟩
                rw [pureRun_bind, guard]
                simp only [Option.bind_some, Go.binOp, pureRun_bind, main a b r hr, pureRun_pure]
              · exact hk.elim
            · exact hk.elim
          · cases hr
      · injection hr with hr
        subst hr
        exact gen hk
    · injection hr with hr
      subst hr
      exact gen hk
    · cases hr
  | unOp op t x =>
    simp only [rI] at hr
    split at hr
    · rename_i x' hx
      injection hr with hr
      subst hr
      simp only [iStep] at hk
      split at hk
      · rename_i b hb
        refine ⟨.bool !b, h, ?_, hk⟩
        simp only [aOp, ev_of hx hb, noAddr, if_true, Op.unary, pureRun_pure]
      · exact hk.elim
    · rename_i x' hx
      injection hr with hr
      subst hr
      simp only [iStep] at hk
      split at hk
      · rename_i k a ha
        refine ⟨.int k (-a), h, ?_, hk.2⟩
        have := hk.1
        simp only [aOp, ev_of hx ha, noAddr, if_true, Op.unary, Op.intArith, pureRun_pure, Int.zero_sub, wrap_inR this]
      · exact hk.elim
    · injection hr with hr
      subst hr
      exact gen hk
  | convert s d x =>
    simp only [rI] at hr
    split at hr
    · rename_i x' k0 k hx hs hu
      injection hr with hr
      subst hr
      simp only [iStep] at hk
      split at hk
      · rename_i k' a ha
        refine ⟨.int k (k.wrap a), h, ?_, ?_⟩
        · have e : pureRun P (Go.convert s d (.int k' a)) = some (.int k (k.wrap a)) := by
            unfold Go.convert
            simp only [pureRun_bind, underlying, program, pureRun, hs, hu, pureRun_pure, Option.bind_some, Conv.intToInt]
          simp only [aOp, ev_of hx ha, noAddr, if_true, e]
        · split at hk
          · exact hk
          · rw [wrap_inR hk.1]; exact hk.2
      · exact hk.elim
    · injection hr with hr
      subst hr
      exact gen hk
  | fieldAddr s x f =>
    simp only [rI] at hr
    split at hr
    · rename_i x' fd hx hf
      split at hr
      · rename_i ti hi
        split at hr
        · cases hr
        · rename_i hz
          injection hr with hr
          subst hr
          simp only [iStep] at hk
          split at hk
          · rename_i k o ha
            refine ⟨_, h, ?_, hk⟩
            simp only [aOp, ev_of hx ha, aFieldAddr, hf, hi]
            rw [if_neg hz]
            unfold addOff Addr.add
            simp only
            by_cases h0 : fd.offset = 0
            · simp [h0]
            · simp [h0]
          · exact hk.elim
      · cases hr
    · cases hr
  | indexAddr t x j =>
    simp only [rI] at hr
    split at hr
    · rename_i x' j' e hx hj hu
      split at hr
      · rename_i f hf
        injection hr with hr
        subst hr
        simp only [iStep] at hk
        split at hk
        · rename_i k o n c kk jj ha hb
          refine ⟨_, h, ?_, hk.2⟩
          simp only [aOp, ev_of hx ha, ev_of hj hb, aIndexAddr, hu, hf]
          rw [if_pos hk.1]
          unfold Addr.add
          simp only
          by_cases h0 : jj.toNat * f.size = 0
          · simp [h0]
          · simp [h0]
        · exact hk.elim
      · cases hr
    · rename_i x' j' n e hx hj hu
      split at hr
      · rename_i f hf
        injection hr with hr
        subst hr
        simp only [iStep] at hk
        split at hk
        · rename_i k o kk jj ha hb
          refine ⟨_, h, ?_, hk.2⟩
          simp only [aOp, ev_of hx ha, ev_of hj hb, aIndexAddr, hu, hf]
          rw [if_pos hk.1]
          unfold Addr.add
          simp only
          by_cases h0 : jj.toNat * f.size = 0
          · simp [h0]
          · simp [h0]
        · exact hk.elim
      · cases hr
    · cases hr
  | load t x =>
    simp only [rI] at hr
    split at hr
    · rename_i x' d ti hx hu hi
      injection hr with hr
      by_cases hd : isAggD d = true
      · rw [if_pos hd] at hr
        subst hr
        simp only [iStep] at hk
        split at hk
        · rename_i k o ha
          split at hk
          · rename_i vs hv
            refine ⟨_, h, ?_, hk⟩
            unfold cellsAt at hv
            split at hv
            · rename_i b hb
              split at hv
              · rename_i hl
                injection hv with hv
                subst hv
                simp only [aOp, ev_of hx ha, aLoad, hb, hu, hi]
                rw [if_pos hd, if_pos hl]
              · cases hv
            · cases hv
          · exact hk.elim
        · exact hk.elim
      · rw [if_neg hd] at hr
        subst hr
        simp only [iStep] at hk
        split at hk
        · rename_i k o ha
          split at hk
          · rename_i v hv
            refine ⟨v, h, ?_, hk⟩
            unfold cellAt at hv
            split at hv
            · rename_i b hb
              simp only [aOp, ev_of hx ha, aLoad, hb, hu, hi]
              rw [if_neg hd, hv]
            · cases hv
          · exact hk.elim
        · exact hk.elim
    · cases hr
  | store t x v =>
    simp only [rI] at hr
    split at hr
    · rename_i x' v' ti hx hv hi
      injection hr with hr
      subst hr
      simp only [iStep] at hk
      split at hk
      · rename_i k o u ha hb
        obtain ⟨⟨c1, c2, c3⟩, c4, hk⟩ := hk
        split at hk
        · rename_i h1 hs
          refine ⟨undef, h1, ?_, hk⟩
          unfold stAt at hs
          split at hs
          · rename_i b hg
            split at hs
            · cases hs
            rename_i hz
            injection hs with hs
            subst hs
            unfold lenAt at c2
            rw [hg] at c2
            simp only [aOp, ev_of hx ha, ev_of hv hb, aStore, hg, hi]
            rw [if_pos ⟨c1, c2, c3, c4, hz⟩]
          · cases hs
        · exact hk.elim
      · exact hk.elim
    · cases hr
  | box t x =>
    simp only [rI] at hr
    split at hr
    · rename_i x' hx
      injection hr with hr
      subst hr
      simp only [iStep] at hk
      split at hk
      · rename_i v hv
        exact ⟨_, _, by simp only [aOp, ev_of hx hv, aBox], hk⟩
      · exact hk.elim
    · cases hr
  | alloc t =>
    simp only [rI] at hr
    split at hr
    · rename_i z hz
      injection hr with hr
      subst hr
      simp only [iStep] at hk
      exact ⟨_, _, by simp only [aOp, aAlloc, hz, Option.map_some, aBox], hk⟩
    · cases hr
  | extract x j =>
    simp only [rI] at hr
    split at hr
    · rename_i x' hx
      injection hr with hr
      subst hr
      simp only [iStep] at hk
      split at hk
      · rename_i vs hv
        split at hk
        · rename_i v hj
          exact ⟨v, h, by simp only [aOp, ev_of hx hv, aExtract, hj], hk⟩
        · exact hk.elim
      · exact hk.elim
    · cases hr
  | field t x f =>
    simp only [rI] at hr
    split at hr
    · rename_i x' fd hx hf
      split at hr
      · rename_i d ti hu hi
        injection hr with hr
        by_cases hd : isAggD d = true
        · rw [if_pos hd] at hr
          subst hr
          simp only [iStep] at hk
          split at hk
          · rename_i cs hv
            exact ⟨_, h, by simp only [aOp, ev_of hx hv, aField, hf, aPart, hu, hi, hd, if_true], hk⟩
          · exact hk.elim
        · rw [if_neg hd] at hr
          subst hr
          simp only [iStep] at hk
          split at hk
          · rename_i cs hv
            split at hk
            · rename_i v hj
              exact ⟨v, h, by simp only [aOp, ev_of hx hv, aField, hf, aPart, hu, hi, hd, Bool.false_eq_true, if_false, hj], hk⟩
            · exact hk.elim
          · exact hk.elim
      · cases hr
    · cases hr
  | build t ps =>
    simp only [rI] at hr
    split at hr
    · rename_i z fields hz hu
      split at hr
      · rename_i pl hpl
        split at hr
        · rename_i rs hrs
          injection hr with hr
          subst hr
          simp only [iStep] at hk
          split at hk
          · rename_i vs hvs
            split at hk
            · rename_i cs hcs
              obtain ⟨us, u1, u2⟩ := fill_of _ _ _ _ _ _ hrs hvs hcs
              refine ⟨_, h, ?_, hk⟩
              simp only [aOp, u1, aBuild, hz, hu, hpl]
              rw [show (⟨z.cells.toList⟩ : Array Value) = z.cells from rfl] at u2
              rw [u2]
              rfl
            · exact hk.elim
          · exact hk.elim
        · cases hr
      · cases hr
    · rename_i z n el hz hu
      split at hr
      · rename_i ti hi
        split at hr
        · rename_i rs hrs
          injection hr with hr
          subst hr
          simp only [iStep] at hk
          split at hk
          · rename_i vs hvs
            split at hk
            · rename_i cs hcs
              obtain ⟨us, u1, u2⟩ := fill_of _ _ _ _ _ _ hrs hvs hcs
              refine ⟨_, h, ?_, hk⟩
              simp only [aOp, u1, aBuild, hz, hu, hi]
              rw [show (⟨z.cells.toList⟩ : Array Value) = z.cells from rfl] at u2
              rw [u2]
              rfl
            · exact hk.elim
          · exact hk.elim
        · cases hr
      · cases hr
    · cases hr
  | buildSlice t n ps =>
    simp only [rI] at hr
    split at hr
    · rename_i el hu
      split at hr
      · rename_i ti z rs hi hz hrs
        split at hr
        · rename_i hn
          injection hr with hr
          subst hr
          simp only [iStep] at hk
          split at hk
          · rename_i vs hvs
            split at hk
            · rename_i cs hcs
              obtain ⟨us, u1, u2⟩ := fillB_of _ _ _ _ _ _ hrs hvs hcs
              refine ⟨_, _, ?_, hk⟩
              have hlt : n < openB := by
                have : (16777216 : Nat) < openB := by unfold openB; omega
                omega
              simp only [aOp, u1, if_pos hlt, aBuildSlice, hu, hi, hz, if_pos hn.1]
              rw [show (⟨zlist z (n * ti.size)⟩ : Array Value) = (zlist z (n * ti.size)).toArray from rfl] at u2
              rw [u2]
            · exact hk.elim
          · exact hk.elim
        · cases hr
      · cases hr
    · cases hr
  | makeFunc fn first captured =>
    cases fn with
    | func f =>
      simp only [rI] at hr
      split at hr
      · rename_i a c ha hc'
        injection hr with hr
        subst hr
        simp only [iStep] at hk
        split at hk
        · rename_i va vc h1 h2
          refine ⟨_, h, ?_, hk⟩
          simp only [aOp, evs_of ha h1, evs_of hc' h2, noYield, if_true]
        · exact hk.elim
      · cases hr
    | _ =>
      simp only [rI, Option.some.injEq] at hr
      subst hr
      exact gen hk
  | makeSlice t n c =>
    simp only [rI] at hr
    split at hr
    · rename_i el hu
      split at hr
      · rename_i ti z n' c' hi hz hn hc'
        split at hr
        · rename_i hb
          injection hr with hr
          subst hr
          simp only [iStep] at hk
          split at hk
          · rename_i k1 nn k2 cc h1 h2
            refine ⟨_, _, ?_, hk.2⟩
            obtain ⟨q1, q2, q3⟩ := hk.1
            simp only [aOp, ev_of hn h1, ev_of hc' h2, aMakeSlice, hu, hi, hz]
            rw [if_pos ⟨q1, q2, q3, hb.1⟩]
            rw [← hb.2, zlist_rep]
          · exact hk.elim
        · cases hr
      · cases hr
    · cases hr
  | _ =>
    simp only [rI, Option.some.injEq] at hr
    subst hr
    exact gen hk
end
end Go.Vm

/- VmY: A machine for closed runs, twenty-fifth part: calls; one operation whole. -/
namespace Go.Vm
open Go Go.RowKit

section
variable {P : Program} {l : Fr} {h h' : AH} {K : Value → AH → Prop} {w : Bool} {i : I}

theorem lenAt_some {k : Nat} {b : Blk} (g : h.get k = some (.cells b)) : lenAt h k = b.cells.length := by unfold lenAt; rw [g]

theorem app_sound {ts : Array TypeId} {sT xT el e2 : TypeId} {ti : TypeInfo} {z : Value} (t0 : ts[0]? = some sT) (t1 : ts[1]? = some xT) (hu : P.underlying sT = some (.slice el)) (hx : P.underlying xT = some (.slice e2)) (hi : P.info? el = some ti) (hz : zeroOf P el = some z) (hs : z.cells.size = ti.size) (hb : ti.bytes ≠ 0) (hsz : ti.size ≠ 0)
    {s e : Value} (hk : appK h ti.size ti.bytes s e K) : ∃ v h', aAppend P h ts s e = some (v, h') ∧ K v h' := by
  unfold appK at hk
  split at hk
  · rename_i base n c new hnew
    obtain ⟨k0, k1⟩ := hk
    have he : ∃ a c', e = .slice a (slen e) c' := by
      unfold sCells at hnew
      split at hnew
      · exact ⟨_, _, rfl⟩
      · exact ⟨_, _, rfl⟩
      · cases hnew
    obtain ⟨ea, ec, he⟩ := he
    have hnew' := sCells_first hnew
    generalize hne : slen e = ne at *
    subst he
    have hcond : (isIntD (.slice e2) || z.cells.size != ti.size || ti.bytes == 0 || ti.size == 0) = false := by
      simp only [isIntD, hs, bne_self_eq_false, Bool.or_false, Bool.false_or, Bool.or_eq_false_iff, beq_eq_false_iff_ne, ne_eq]
      exact ⟨hb, hsz⟩
    by_cases h0 : ne = 0
    · obtain ⟨k2, k3⟩ := k0 h0
      refine ⟨_, h, ?_, k3⟩
      simp only [aAppend, t0, t1, hu, hx, hi, hz, hcond, Bool.false_eq_true, if_false, h0, if_true]
      rw [if_pos k2]
    · have k2 := k1 h0
      unfold appN at k2
      simp only [aAppend, t0, t1, hu, hx, hi, hz, hcond, Bool.false_eq_true, if_false, h0]
      by_cases hc : c < openB
      · rw [if_pos hc] at k2 ⊢
        by_cases hr : n + ne ≤ c
        · rw [if_pos hr] at k2 ⊢
          split at k2
          · rename_i k o
            obtain ⟨⟨q1, q2⟩, q3, k2⟩ := k2
            split at k2
            · rename_i h1 hst
              unfold stAt at hst
              split at hst
              · rename_i b hg
                split at hst
                · cases hst
                rename_i hz
                injection hst with hst
                subst hst
                rw [lenAt_some hg] at q2
                refine ⟨_, _, ?_, k2⟩
                simp only [hg, hnew']
                rw [if_pos ⟨q1, q2, q3, hz⟩]
              · cases hst
            · exact k2.elim
          · exact k2.elim
        · rw [if_neg hr] at k2 ⊢
          split at k2
          · rename_i old hold
            have hold' := sCells_first hold
            rw [slen_slice] at hold'
            refine ⟨_, _, ?_, k2.2⟩
            have hcap := nextcap_le (need := n + ne) (C := c) (by omega)
            rw [if_pos (Nat.le_trans (Nat.mul_le_mul_right _ hcap) k2.1)]
            simp only [aGrow, hold', hnew']
          · exact k2.elim
      · rw [if_neg hc] at k2 ⊢
        split at k2
        · rename_i k o
          split at k2
          · rename_i b hg
            obtain ⟨⟨q1, q2, q3⟩, q4, q5, q6, k2⟩ := k2
            split at k2
            · rename_i old hold
              have hold' := sCells_first hold
              rw [slen_slice] at hold'
              refine ⟨_, _, ?_, k2⟩
              simp only [hg]
              rw [if_pos ⟨q1, q4, q5, q2, q3⟩]
              simp only [hold', hnew']
              rw [if_pos q6]
            · exact k2.elim
          · exact k2.elim
        · exact k2.elim
  · exact hk.elim

theorem iStep_sound {o : Oper} (hr : rI P o.op = some i) (hk : iStep P w i l h K) : ∃ v h', rStep P (semC P) h (aEnv (trOf l)) o v h' ∧ K v h' := by
  by_cases hc : ∃ c, o.op = .call c
  · obtain ⟨c, hc⟩ := hc
    rw [hc] at hr
    simp only [rI] at hr
    split at hr
    · rename_i args hargs
      split at hr
      · rename_i f hf
        split at hr
        · rename_i x hx
          injection hr with hr
          subst hr
          simp only [iStep] at hk
          split at hk
          · rename_i g first captured vs h1 h2
            obtain ⟨v, h', k1, k2⟩ := hk
            refine ⟨v, h', ?_, k2⟩
            unfold rStep
            rw [hc]
            simp only [evs_of hargs h2, hf, ev_of hx h1]
            exact k1
          · rename_i k first cap vs h1 h2
            obtain ⟨k0, v, h', k1, k2⟩ := hk
            refine ⟨v, h', ?_, k2⟩
            unfold rStep
            rw [hc]
            simp only [evs_of hargs h2, hf, ev_of hx h1]
            exact ⟨k0, k1⟩
          · exact hk.elim
        · cases hr
      · rename_i b hb
        have fin : ∀ {vs : List Value} {v : Value} {h' : AH}, aArgs (aEnv (trOf l)) c.args.toList = some vs → aBuiltin P h b c.argTypes o.type vs = some (v, h') → rStep P (semC P) h (aEnv (trOf l)) o v h' := by
          intro vs v h' e1 e2
          unfold rStep
          rw [hc]
          simp only [e1, hb]
          exact e2
        split at hr
        · rename_i x el hu
          injection hr with hr
          subst hr
          simp only [iStep] at hk
          split at hk
          · rename_i a n cp hv
            have h2 : evs l [x] = some [.slice a n cp] := by simp only [evs, hv]
            refine ⟨_, h, fin (evs_of hargs h2) ?_, hk⟩
            obtain ⟨t, ht, ht2⟩ := Option.bind_eq_some_iff.1 hu
            simp only [aBuiltin, ht, ht2]
          · exact hk.elim
        · rename_i x y el t1 hu ht1
          split at hr
          · rename_i e2 ti z hu1 hi hz
            split at hr
            · cases hr
            · rename_i hcond
              injection hr with hr
              subst hr
              simp only [iStep] at hk
              split at hk
              · rename_i s e hs he
                have h2 : evs l [x, y] = some [s, e] := by simp only [evs, hs, he]
                obtain ⟨t, ht, ht2⟩ := Option.bind_eq_some_iff.1 hu
                simp only [Bool.or_eq_true, bne_iff_ne, ne_eq, beq_iff_eq, not_or, Decidable.not_not] at hcond
                obtain ⟨v, h', e1, e2⟩ := app_sound ht ht1 ht2 hu1 hi hz hcond.1.1 hcond.1.2 hcond.2 hk
                exact ⟨v, h', fin (evs_of hargs h2) (by simp only [aBuiltin]; exact e1), e2⟩
              · exact hk.elim
          · cases hr
        · injection hr with hr
          subst hr
          simp only [iStep] at hk
          split at hk
          · rename_i k a vs hv
            split at hk
            · rename_i r hvs
              refine ⟨_, h, fin (evs_of hargs hv) ?_, hk⟩
              have e1 : noAddrs (.int k a :: vs) = true := by simp only [noAddrs, noAddr, Bool.true_and]; exact ints_noAddrs _ _ hvs
              have e2 : pureRun P (Builtin.min_ c.argTypes o.type (Value.int k a :: vs).toArray) = some (.int k (mmI true a r)) := minL vs a r hvs
              simp only [aBuiltin, e1, if_true, e2, noAddr]
            · exact hk.elim
          · exact hk.elim
        · injection hr with hr
          subst hr
          simp only [iStep] at hk
          split at hk
          · rename_i k a vs hv
            split at hk
            · rename_i r hvs
              refine ⟨_, h, fin (evs_of hargs hv) ?_, hk⟩
              have e1 : noAddrs (.int k a :: vs) = true := by simp only [noAddrs, noAddr, Bool.true_and]; exact ints_noAddrs _ _ hvs
              have e2 : pureRun P (Builtin.max_ c.argTypes o.type (Value.int k a :: vs).toArray) = some (.int k (mmI false a r)) := maxL vs a r hvs
              simp only [aBuiltin, e1, if_true, e2, noAddr]
            · exact hk.elim
          · exact hk.elim
        · cases hr
      · cases hr
    · cases hr
  · have hc' : ∀ c, o.op ≠ .call c := fun c e => hc ⟨c, e⟩
    obtain ⟨v, h', e1, e2⟩ := iOp_sound o.op hr hc' hk
    exact ⟨v, h', rStep_op hc' e1, e2⟩
end
end Go.Vm

/- VmZ: A machine for closed runs, twenty-sixth part: rows of operations, and regions that draw their order. -/
namespace Go.Vm
open Go Go.RowKit

section
variable {P : Program} {l : Fr} {h h' : AH} {K : Value → AH → Prop} {w : Bool} {i : I}

theorem aArgs_congr {ρ ρ' : Env} : ∀ (os : List Operand), (∀ x ∈ os, ρ' x = ρ x) → aArgs ρ' os = aArgs ρ os
  | [], _ => rfl
  | o :: os, hx => by simp only [aArgs, hx o (by simp), aArgs_congr os (fun x hm => hx x (by simp [hm]))]
theorem aParts_congr {ρ ρ' : Env} : ∀ (os : List (Nat × Operand)), (∀ x ∈ os, ρ' x.2 = ρ x.2) → aParts ρ' os = aParts ρ os
  | [], _ => rfl
  | (i, o) :: os, hx => by simp only [aParts, hx (i, o) (by simp), aParts_congr os (fun x hm => hx x (by simp [hm]))]
theorem aOptV_congr {ρ ρ' : Env} {o : Option Operand} (hx : ∀ x, o = some x → ρ' x = ρ x) : aOptV ρ' o = aOptV ρ o := by
  cases o with
  | none => rfl
  | some x => simp only [aOptV, hx x rfl]
theorem aOp_congr {ρ ρ' : Env} (op : Op) (hx : ∀ x ∈ op.operands.toList, ρ' x = ρ x) : aOp P h ρ' op = aOp P h ρ op := by
  cases op with
  | pick c a b =>
    have h1 := hx c (by simp [Op.operands])
    have h2 := hx a (by simp [Op.operands])
    have h3 := hx b (by simp [Op.operands])
    simp only [aOp, h1]
    split
    · rename_i t _
      cases t
      · simp only [Bool.false_eq_true, if_false, h3]
      · simp only [if_true, h2]
    · rfl
  | build t ps => simp only [aOp, aParts_congr ps.toList (fun x hm => hx x.2 (by simp only [Op.operands]; simpa using ⟨x.1, by simpa using hm⟩))]
  | buildSlice t n ps => simp only [aOp, aParts_congr ps.toList (fun x hm => hx x.2 (by simp only [Op.operands]; simpa using ⟨x.1, by simpa using hm⟩))]
  | makeFunc fn a c => simp only [aOp, aArgs_congr a.toList (fun x hm => hx x (by simp only [Op.operands]; simp only [Array.toList_append, List.mem_append]; exact .inl hm)), aArgs_congr c.toList (fun x hm => hx x (by simp only [Op.operands]; simp only [Array.toList_append, List.mem_append]; exact .inr hm))]
  | slice t x lo hi mx =>
    have h1 := hx x (by simp [Op.operands])
    have h2 := aOptV_congr (ρ := ρ) (ρ' := ρ') (o := lo) (fun y hy => hx y (by simp [Op.operands, hy]))
    have h3 := aOptV_congr (ρ := ρ) (ρ' := ρ') (o := hi) (fun y hy => hx y (by simp [Op.operands, hy]))
    have h4 := aOptV_congr (ρ := ρ) (ρ' := ρ') (o := mx) (fun y hy => hx y (by simp [Op.operands, hy]))
    simp only [aOp, h1, h2, h3, h4]
  | move x => simp only [aOp, hx x (by simp [Op.operands])]
  | assign x => simp only [aOp, hx x (by simp [Op.operands])]
  | box t x => simp only [aOp, hx x (by simp [Op.operands])]
  | load t x => simp only [aOp, hx x (by simp [Op.operands])]
  | store t a x => simp only [aOp, hx x (by simp [Op.operands]), hx a (by simp [Op.operands])]
  | nilCheck x => simp only [aOp, hx x (by simp [Op.operands])]
  | binOp op t x y u => simp only [aOp, hx x (by simp [Op.operands]), hx y (by simp [Op.operands])]
  | unOp op t x => simp only [aOp, hx x (by simp [Op.operands])]
  | convert s d x => simp only [aOp, hx x (by simp [Op.operands])]
  | makeSlice t x y => simp only [aOp, hx x (by simp [Op.operands]), hx y (by simp [Op.operands])]
  | fieldAddr t x f => simp only [aOp, hx x (by simp [Op.operands])]
  | field t x f => simp only [aOp, hx x (by simp [Op.operands])]
  | indexAddr t x y => simp only [aOp, hx x (by simp [Op.operands]), hx y (by simp [Op.operands])]
  | index t x y => simp only [aOp, hx x (by simp [Op.operands]), hx y (by simp [Op.operands])]
  | extract x i => simp only [aOp, hx x (by simp [Op.operands])]
  | lookup t x y ok => simp only [aOp, hx x (by simp [Op.operands]), hx y (by simp [Op.operands])]
  | mapUpdate t x y z => simp only [aOp, hx x (by simp [Op.operands]), hx y (by simp [Op.operands]), hx z (by simp [Op.operands])]
  | insert t x y z => simp only [aOp, hx x (by simp [Op.operands]), hx y (by simp [Op.operands]), hx z (by simp [Op.operands])]
  | range t x => simp only [aOp, hx x (by simp [Op.operands])]
  | next x b => simp only [aOp, hx x (by simp [Op.operands])]
  | entry x => simp only [aOp, hx x (by simp [Op.operands])]
  | makeMap t r =>
    have h1 := aOptV_congr (ρ := ρ) (ρ' := ρ') (o := r) (fun y hy => hx y (by simp [Op.operands, hy]))
    simp only [aOp, h1]
  | _ => simp only [aOp]

theorem rStep_congr {C : CallR} {ρ ρ' : Env} {o : Oper} {v : Value} (hx : ∀ x ∈ o.op.operands.toList, ρ' x = ρ x) (e : rStep P C h ρ o v h') : rStep P C h ρ' o v h' := by
  by_cases hc : ∃ c, o.op = .call c
  · obtain ⟨c, hc⟩ := hc
    unfold rStep at e ⊢
    rw [hc] at e hx ⊢
    simp only [Op.operands, Call.operands] at hx e ⊢
    rw [aArgs_congr (ρ := ρ) (ρ' := ρ') c.args.toList (fun x hm => hx x (by simp only [Array.toList_append, List.mem_append]; exact .inr hm))]
    cases hcal : c.callee with
    | value f =>
      rw [hcal] at e hx
      have hf := hx f (by simp)
      simp only [hf]
      exact e
    | builtin b => rw [hcal] at e; exact e
    | invoke r m => rw [hcal] at e; exact e
  · have hc' : ∀ c, o.op ≠ .call c := fun c e => hc ⟨c, e⟩
    refine rStep_op hc' ?_
    rw [aOp_congr o.op hx]
    unfold rStep at e
    split at e
    · rename_i c hc2; exact absurd hc2 (hc' c)
    · exact e

theorem envT (ops : Array Oper) (o : Oper) (t : Tr Value) : ∀ x ∈ o.op.operands.toList, aEnvT (touch ops o) t x = aEnv t x := by
  intro x hx
  cases x with
  | tmp n =>
    simp only [aEnvT, aEnv]
    rw [if_pos]
    refine List.contains_iff_mem.2 ?_
    unfold touch
    refine List.mem_append.2 (.inl (List.mem_append.2 (.inr (List.mem_filterMap.2 ⟨.tmp n, hx, rfl⟩))))
  | _ => rfl
end

structure IOp where
  d : Option Nat
  g : Option (Nat × Bool)
  w : Bool
  i : I

def dstOk (nt : Nat) : Option Nat → Bool
  | some d => decide (d < nt)
  | none => true
def rIO (P : Program) (nt : Nat) (ops : Array Oper) (o : Oper) : Option (Option Nat × Option (Nat × Bool) × I) :=
  match rI P o.op with
  | none => none
  | some i =>
    if dstOk nt o.dst then
      match o.guard with
      | none => some (o.dst, none, i)
      | some (j, b) => match (ops[j]?).bind (·.dst) with
        | some d => some (o.dst, some (d, b), i)
        | none => none
    else none

def putF : Option Nat → Value → Fr → Fr
  | some d, v, l => (d, v) :: l
  | none, _, l => l

def iRow (P : Program) : List IOp → Fr → AH → (Fr → AH → Prop) → Prop
  | [], l, h, K => K l h
  | o :: r, l, h, K => match o.g with
    | none => iStep P o.w o.i l h fun v h' => iRow P r (putF o.d v l) h' K
    | some (d, b) => match lk l d with
      | some (.bool t) => (t = b → iStep P o.w o.i l h fun v h' => iRow P r (putF o.d v l) h' K) ∧ (t = !b → iRow P r (putF o.d undef l) h K)
      | some (.tuple _) => iRow P r (putF o.d undef l) h K
      | _ => False

/-- What a reading operation sees. -/
def viewM (h : AH) (m : Nat) (news : List (Nat × Nat × Nat)) : AH := { h with wlim := h.next, hid := h.hid ++ (news.filter fun x => decide (x.2.1 < x.2.2) && !m.testBit x.1).map (·.2) }
/-- What a store into a block of the same piece sees. -/
def lviewM (h : AH) (m : Nat) (news : List (Nat × Nat × Nat)) : AH := { viewM h m news with wlim := h.wlim }
def back (h h' : AH) : AH := { h' with wlim := h.wlim, hid := h.hid }
def addNews (i a b : Nat) (news : List (Nat × Nat × Nat)) : List (Nat × Nat × Nat) := if a < b then (i, a, b) :: news else news
/-- Whoever wrote in this piece stands before; the name was made before, and nobody else can see it. -/
def wOKm (m : Nat) (news : List (Nat × Nat × Nat)) : Bool := news.all fun x => decide (x.2.1 ≤ x.2.2) || m.testBit x.1
def locOKm (m c k : Nat) (news : List (Nat × Nat × Nat)) : Bool := news.any fun x => decide (x.2.1 ≤ k) && decide (k < x.2.2) && m.testBit x.1 && !c.testBit x.1
def stN (l : Fr) : I → Option Nat
  | .st _ x _ => match x.ev l with
    | some (.pointer (some a)) => some a.block
    | _ => none
  | _ => none
/-- The open row that an append takes the name of. -/
def killN (l : Fr) (h : AH) : I → Option Nat
  | .app _ _ x y => match x.ev l, y.ev l with
    | some (.slice (some ⟨k, o, none⟩) n c), some e => if openB ≤ c ∧ slen e ≠ 0 then match h.get k with
      | some (.cells b) => if b.cells.length ≤ o + n * b.esz then some k else none
      | _ => none
      else none
    | _, _ => none
  | _ => none
/-- An operation that does not part the region: c is 0 if it looks at no memory. -/
def dStep (P : Program) (n m c : Nat) (w : Bool) (i : I) (l : Fr) (h : AH) (news : List (Nat × Nat × Nat)) (K : Value → AH → List (Nat × Nat × Nat) → Prop) : Prop :=
  if c = 0 then iStep P w i l h fun v _ => K v h news
  else wOKm m news = true ∧ match stN l i with
    | some k => locOKm m (c - 1) k news = true ∧ iStep P w i l (lviewM h m news) fun v h' => K v { h' with hid := h.hid } ((n, k + 1, k) :: news)
    | none => match killN l (lviewM h m news) i with
      | some k => oldName k news = true ∧ iStep P w i l (lviewM h m news) fun v h' => h'.next = h.next + 1 ∧ K v { h' with hid := h.hid } (addNews n h.next h'.next news)
      | none => iStep P w i l (viewM h m news) fun v h' => K v (back h h') (addNews n h.next h'.next news)

/- a store that stands behind loads of other blocks: which slots these loads read and write, as a number -/
def encP : List (Nat × Nat) → Nat
  | [] => 0
  | (s, d) :: r => encP r * 1048576 + (s * 1024 + d + 1)
def decP : Nat → Nat → List (Nat × Nat)
  | 0, _ => []
  | f + 1, c => if c = 0 then [] else ((c % 1048576 - 1) / 1024, (c % 1048576 - 1) % 1024) :: decP f (c / 1048576)
def softPs (ops : Array Oper) (ms : List Nat) (i : Nat) : Nat → Option (List (Nat × Nat))
  | 0 => some []
  | j + 1 => match ops[j]? with
    | some o => if (!isLd o.op || before ms j i) = true then softPs ops ms i j else
        if o.guard.isNone = true then match o.op, o.dst with
          | .load _ (.tmp s), some d => if (unwr ops s j i && unwr ops d (j + 1) i) = true then (softPs ops ms i j).map ((s, d) :: ·) else none
          | _, _ => none
        else none
    | none => softPs ops ms i j
def softC (ops : Array Oper) (ms : List Nat) (i : Nat) (o : Oper) : Option Nat :=
  if isSoft ops ms i o = true then match softPs ops ms i i with
    | some l => if decP 64 (encP l) = l then some (encP l + 1) else none
    | none => none
  else none
def softB (l : Fr) (i : I) (c : Nat) : Bool := match stN l i with
  | some k => (decP 64 (c - 1)).all fun p => (match lk l p.1 with
    | some (.pointer (some a)) => !Nat.beq a.block k
    | _ => false) && (match lk l p.2 with
    | some v => noAddr v
    | none => false)
  | none => false
/-- An operation that parts the region: c is 0 if it does so by itself. -/
def barOK (l : Fr) (i : I) (c : Nat) : Prop := c = 0 ∨ softB l i c = true

def iDraw (P : Program) : Nat → List (IOp × Bool × Nat × Nat) → Fr → AH → List (Nat × Nat × Nat) → (Fr → AH → Prop) → Prop
  | _, [], l, h, _, K => K l h
  | i, (o, bar, m, c) :: r, l, h, news, K => match o.g with
    | none => if bar then barOK l o.i c ∧ iStep P o.w o.i l h fun v h' => iDraw P (i + 1) r (putF o.d v l) h' [] K
      else dStep P i m c o.w o.i l h news fun v h' nw => iDraw P (i + 1) r (putF o.d v l) h' nw K
    | some (d, b) => match lk l d with
      | some (.bool t) => (t = b → if bar then barOK l o.i c ∧ iStep P o.w o.i l h fun v h' => iDraw P (i + 1) r (putF o.d v l) h' [] K
          else dStep P i m c o.w o.i l h news fun v h' nw => iDraw P (i + 1) r (putF o.d v l) h' nw K) ∧
        (t = !b → iDraw P (i + 1) r (putF o.d undef l) h news K)
      | some (.tuple _) => iDraw P (i + 1) r (putF o.d undef l) h news K
      | _ => False

def rRs (P : Program) (nt : Nat) (ops : Array Oper) : List Oper → Option (List (Option Nat × Option (Nat × Bool) × I))
  | [] => some []
  | o :: r => match rIO P nt ops o, rRs P nt ops r with
    | some x, some xs => some (x :: xs)
    | _, _ => none
def IOp.er (o : IOp) : Option Nat × Option (Nat × Bool) × I := (o.d, o.g, o.i)
def appMask (ops : Array Oper) : Nat → Nat
  | 0 => 0
  | m + 1 => if appAt ops m then appMask ops m ||| 2 ^ m else appMask ops m
theorem appMask_bit {ops : Array Oper} {j : Nat} : ∀ {n : Nat}, (appMask ops n).testBit j = (decide (j < n) && appAt ops j)
  | 0 => by simp [appMask]
  | n + 1 => by
    unfold appMask
    by_cases hn : appAt ops n = true
    · rw [if_pos hn, Nat.testBit_or, appMask_bit, Nat.testBit_two_pow]
      by_cases e : n = j
      · subst e; simp [hn]
      · have : (j < n + 1) = (j < n) := propext ⟨fun h => by omega, fun h => by omega⟩
        simp [e, this]
    · rw [if_neg hn, appMask_bit]
      by_cases e : n = j
      · subst e; simp [hn]
      · have : (j < n + 1) = (j < n) := propext ⟨fun h => by omega, fun h => by omega⟩
        simp [this]
def cxOf (ops : Array Oper) (ms : List Nat) (i : Nat) (o : Oper) : Nat := if isPure o.op then 0 else (cfl ops ms i i ||| appMask ops ops.size) + 1
/-- The whole of a region that draws. -/
def rDs (P : Program) (nt : Nat) (ops : Array Oper) (ms : List Nat) : Nat → List Oper → Option (List ((Option Nat × Option (Nat × Bool) × I) × Bool × Nat × Nat))
  | _, [] => some []
  | i, o :: r => match rIO P nt ops o, rDs P nt ops ms (i + 1) r with
    | some x, some xs => some ((x, isBar ops ms i o || (softC ops ms i o).isSome, ms.getD i 0, if isBar ops ms i o = true then 0 else (softC ops ms i o).getD (cxOf ops ms i o)) :: xs)
    | _, _ => none
def IOp.erd (o : IOp × Bool × Nat × Nat) : (Option Nat × Option (Nat × Bool) × I) × Bool × Nat × Nat := (o.1.er, o.2)

section
variable {P : Program} {nt : Nat} {ops : Array Oper}

theorem ne_not {t b : Bool} (h : ¬ t = b) : t = !b := by cases t <;> cases b <;> simp_all
theorem rIO_parts {o : Oper} {x : Option Nat × Option (Nat × Bool) × I} (e : rIO P nt ops o = some x) :
    rI P o.op = some x.2.2 ∧ o.dst = x.1 ∧ (∀ d, o.dst = some d → d < nt) ∧ ((o.guard = none ∧ x.2.1 = none) ∨ ∃ j b d, o.guard = some (j, b) ∧ (ops[j]?).bind (·.dst) = some d ∧ x.2.1 = some (d, b)) := by
  unfold rIO at e
  split at e
  · cases e
  · rename_i i hi
    split at e
    · rename_i hd
      have hd' : ∀ d, o.dst = some d → d < nt := by
        intro d h
        rw [h] at hd
        simpa [dstOk] using hd
      split at e
      · rename_i hg
        injection e with e
        subst e
        exact ⟨hi, rfl, hd', .inl ⟨hg, rfl⟩⟩
      · rename_i j b hg
        split at e
        · rename_i d hj
          injection e with e
          subst e
          exact ⟨hi, rfl, hd', .inr ⟨j, b, d, hg, hj, rfl⟩⟩
        · cases e
    · cases e

theorem put_of {l : Fr} {o : Oper} {d : Option Nat} (hd : o.dst = d) (hlt : ∀ d, o.dst = some d → d < nt) (v : Value) : aPut nt (trOf l) o.dst v = some (trOf (putF d v l)) := by
  subst hd
  cases hd : o.dst with
  | none => rfl
  | some d => simp only [aPut, if_pos (hlt d hd), putF, trOf]

theorem want_none {t : Tr Value} {o : Oper} (hg : o.guard = none) : aWant ops t o = some true := by unfold aWant; rw [hg]
theorem want_some {l : Fr} {o : Oper} {j d : Nat} {b t : Bool} (hg : o.guard = some (j, b)) (hj : (ops[j]?).bind (·.dst) = some d) (hl : lk l d = some (.bool t)) : aWant ops (trOf l) o = some (t == b) := by
  unfold aWant
  rw [hg]
  simp only [hj, trOf_get, hl]

theorem want_tup {l : Fr} {o : Oper} {j d : Nat} {b : Bool} {a : Array Value} (hg : o.guard = some (j, b)) (hj : (ops[j]?).bind (·.dst) = some d) (hl : lk l d = some (.tuple a)) : aWant ops (trOf l) o = some false := by
  unfold aWant
  rw [hg]
  simp only [hj, trOf_get, hl]

theorem iRow_sound : ∀ (os : List Oper) (ios : List IOp) (l : Fr) (h : AH) (K : Fr → AH → Prop), rRs P nt ops os = some (ios.map IOp.er) → iRow P ios l h K → ∃ l' h', rRow P (semC P) nt ops os (trOf l) h (trOf l') h' ∧ K l' h' := by
  intro os
  induction os with
  | nil =>
    intro ios l h K hr hk
    simp only [rRs, Option.some.injEq] at hr
    cases ios with
    | nil => exact ⟨l, h, ⟨rfl, rfl⟩, hk⟩
    | cons o r => cases hr
  | cons o os ih =>
    intro ios l h K hr hk
    simp only [rRs] at hr
    split at hr
    · rename_i x xs hx hxs
      injection hr with hr
      cases ios with
      | nil => cases hr
      | cons io r =>
        simp only [List.map_cons, List.cons.injEq] at hr
        obtain ⟨rfl, rfl⟩ := hr
        obtain ⟨q1, q2, q3, q4⟩ := rIO_parts hx
        have step : (iStep P io.w io.i l h fun v h' => iRow P r (putF io.d v l) h' K) → aWant ops (trOf l) o = some true → ∃ l' h', rRow P (semC P) nt ops (o :: os) (trOf l) h (trOf l') h' ∧ K l' h' := by
          intro hs hw
          obtain ⟨v, h1, e1, e2⟩ := iStep_sound (o := o) q1 hs
          obtain ⟨l', h', e3, e4⟩ := ih r _ _ _ hxs e2
          exact ⟨l', h', .inl ⟨hw, v, h1, _, e1, put_of q2 q3 v, e3⟩, e4⟩
        unfold iRow at hk
        rcases q4 with ⟨g1, g2⟩ | ⟨j, b, d, g1, g2, g3⟩
        · have g2' : io.g = none := g2
          rw [g2'] at hk
          exact step hk (want_none g1)
        · have g3' : io.g = some (d, b) := g3
          rw [g3'] at hk
          simp only at hk
          split at hk
          · rename_i t ht
            have hw := want_some g1 g2 ht
            by_cases htb : t = b
            · subst htb
              exact step (hk.1 rfl) (by rw [hw]; simp)
            · have htb' : t = !b := ne_not htb
              obtain ⟨l', h', e3, e4⟩ := ih r _ _ _ hxs (hk.2 htb')
              exact ⟨l', h', .inr ⟨by rw [hw]; simp [htb], _, put_of q2 q3 undef, e3⟩, e4⟩
          · rename_i a ht
            have hw := want_tup g1 g2 ht
            obtain ⟨l', h', e3, e4⟩ := ih r _ _ _ hxs hk
            exact ⟨l', h', .inr ⟨hw, _, put_of q2 q3 undef, e3⟩, e4⟩
          · exact hk.elim
    · cases hr

abbrev nwF (news : List (Nat × Nat × Nat)) : List (Nat × Nat × Nat) := news.filter fun x => decide (x.2.1 ≠ x.2.2)
theorem view_eq (h : AH) (ms : List Nat) (i : Nat) (news : List (Nat × Nat × Nat)) : h.view ms i news = viewM h (ms.getD i 0) (nwF news) := by
  unfold AH.view viewM before
  rw [List.filter_filter]
  congr 4
  funext x
  by_cases hx : x.2.1 < x.2.2
  · have : x.2.1 ≠ x.2.2 := by omega
    simp [hx, this]
  · simp [hx]
theorem wOK_eq {ms : List Nat} {i : Nat} {o : Oper} {news : List (Nat × Nat × Nat)} (h : wOKm (ms.getD i 0) (nwF news) = true) : wOK ms i o news = true := by
  unfold wOK
  rw [Bool.or_eq_true]
  right
  rw [List.all_eq_true]
  intro x hx
  unfold wOKm at h
  rw [List.all_eq_true] at h
  by_cases he : x.2.1 = x.2.2
  · simp [he]
  · exact h x (List.mem_filter.2 ⟨hx, by simpa using he⟩)
theorem locOK_eq {ms : List Nat} {i k : Nat} {news : List (Nat × Nat × Nat)} (h : locOKm (ms.getD i 0) (cfl ops ms i i ||| appMask ops ops.size) k (nwF news) = true) : locOK ops ms i k news = true := by
  unfold locOKm at h
  unfold locOK
  obtain ⟨x, hx, hc⟩ := List.any_eq_true.1 h
  refine List.any_eq_true.2 ⟨x, (List.mem_filter.1 hx).1, ?_⟩
  simp only [Nat.testBit_or, Bool.and_eq_true, Bool.not_eq_true', Bool.or_eq_false_iff, appMask_bit] at hc
  obtain ⟨⟨h1, h2⟩, h3, h4⟩ := hc
  have h5 : appAt ops x.1 = false := by
    cases hlt : decide (x.1 < ops.size) with
    | true => rw [hlt, Bool.true_and] at h4; exact h4
    | false =>
      unfold appAt
      rw [Array.getElem?_eq_none (by simpa using hlt)]
  simp only [Bool.and_eq_true, Bool.not_eq_true']
  exact ⟨⟨⟨h1, h2⟩, h3⟩, h5⟩
theorem oldName_eq {k : Nat} {news : List (Nat × Nat × Nat)} (h : oldName k (nwF news) = true) : oldName k news = true := by
  unfold oldName at *
  rw [List.all_eq_true] at *
  intro x hx
  by_cases he : x.2.1 = x.2.2
  · rw [he]
    by_cases h1 : x.2.2 ≤ k
    · have : ¬ k < x.2.2 := by omega
      simp [this]
    · simp [h1]
  · exact h x (List.mem_filter.2 ⟨hx, by simpa using he⟩)
theorem kill_of {o : Oper} {i : I} {l : Fr} {h : AH} {k : Nat} (hi : rI P o.op = some i) (hs : killN l h i = some k) : killName h (aEnvT (touch ops o) (trOf l)) o = some k := by
  unfold killN at hs
  split at hs
  · rename_i sz bytes x y
    split at hs
    · rename_i k' off n cp e hx hy
      split at hs
      · rename_i hcp
        have key : ∃ c, o.op = .call c ∧ c.callee = .builtin .append ∧ rXs c.args.toList = some [x, y] := by
          cases ho : o.op with
          | call c =>
            rw [ho] at hi
            simp only [rI] at hi
            split at hi
            · rename_i args hargs
              split at hi
              · split at hi
                · cases hi
                · cases hi
              · rename_i b hcal
                split at hi
                · cases hi
                · rename_i x' y' _ _ _ _ _
                  split at hi
                  · split at hi
                    · cases hi
                    · injection hi with hi
                      injection hi with _ _ h1 h2
                      subst h1 h2
                      exact ⟨c, rfl, hcal, hargs⟩
                  · cases hi
                · cases hi
                · cases hi
                · cases hi
              · cases hi
            · cases hi
          | _ =>
            exfalso
            rw [ho] at hi
            simp only [rI] at hi
            first
              | (cases hi; done)
              | (repeat' split at hi
                 all_goals first
                   | contradiction
                   | (cases hi; done)
                   | (injection hi with hi; split at hi <;> cases hi)
                   | (rename_i hx; rw [← hx] at hi; cases hi)
                   | (cases hi))
        obtain ⟨c, ho, hcal, hargs⟩ := key
        have hin : ∀ z ∈ o.op.operands.toList, aEnvT (touch ops o) (trOf l) z = aEnv (trOf l) z := envT ops o (trOf l)
        have hev : evs l [x, y] = some [.slice (some ⟨k', off, none⟩) n cp, e] := by simp only [evs, hx, hy]
        have ha := evs_of hargs hev
        have ha' : aArgs (aEnvT (touch ops o) (trOf l)) c.args.toList = some [.slice (some ⟨k', off, none⟩) n cp, e] := by
          rw [← ha]
          refine aArgs_congr _ fun z hz => hin z ?_
          rw [ho]
          simp only [Op.operands, Call.operands, Array.toList_append, List.mem_append]
          exact .inr hz
        unfold killName
        rw [ho]
        simp only [hcal, ha']
        rw [if_pos hcp.1]
        exact hs
      · cases hs
    · cases hs
  · cases hs
theorem addNews_filter (i a b : Nat) (hab : a ≤ b) (news : List (Nat × Nat × Nat)) : addNews i a b (nwF news) = nwF ((i, a, b) :: news) := by
  unfold addNews nwF
  rw [List.filter_cons]
  by_cases h : a < b
  · rw [if_pos h, if_pos (by simp; omega)]
  · rw [if_neg h, if_neg (by simp; omega)]
theorem stN_of {o : Oper} {i : I} {l : Fr} {k : Nat} (hi : rI P o.op = some i) (hs : stN l i = some k) : stName (aEnvT (touch ops o) (trOf l)) o = some k := by
  unfold stN at hs
  split at hs
  · rename_i n x v
    split at hs
    · rename_i a ha
      have key : ∃ t y z, o.op = .store t y z ∧ rX y = some x := by
        cases ho : o.op with
        | store t y z =>
          rw [ho] at hi
          simp only [rI] at hi
          split at hi
          · rename_i x' v' ti hx hv hti
            injection hi with hi
            injection hi with h1 h2 h3
            subst h2
            exact ⟨t, y, z, rfl, hx⟩
          · cases hi
        | _ =>
          exfalso
          rw [ho] at hi
          simp only [rI] at hi
          first
            | (cases hi; done)
            | (repeat' split at hi
               all_goals first
                 | contradiction
                 | (cases hi; done)
                 | (injection hi with hi; split at hi <;> cases hi)
                 | (rename_i hx; rw [← hx] at hi; cases hi)
                 | (cases hi))
      obtain ⟨t, y, z, ho, hx⟩ := key
      unfold stName
      rw [ho]
      simp only
      rw [envT ops o (trOf l) y (by rw [ho]; simp [Op.operands]), ev_of hx ha]
      exact hs
    · cases hs
  · cases hs

theorem softPs_at {ms : List Nat} {i : Nat} : ∀ {m : Nat} {l : List (Nat × Nat)}, softPs ops ms i m = some l → ∀ (j : Nat) (o : Oper), j < m → ops[j]? = some o → isLd o.op = true → before ms j i = false →
    ∃ ty s d, o.guard = none ∧ o.op = .load ty (.tmp s) ∧ o.dst = some d ∧ unwr ops s j i = true ∧ unwr ops d (j + 1) i = true ∧ (s, d) ∈ l
  | 0, _, _, _, _, hj, _, _, _ => absurd hj (Nat.not_lt_zero _)
  | m + 1, l, h, j, o, hj, ho, hl, hb => by
    rcases Nat.lt_or_ge j m with q | q
    · rw [softPs] at h
      split at h
      · split at h
        · exact softPs_at h j o q ho hl hb
        · split at h
          · split at h
            · split at h
              · rw [Option.map_eq_some_iff] at h
                obtain ⟨l', h', rfl⟩ := h
                obtain ⟨ty, s, d, a1, a2, a3, a4, a5, a6⟩ := softPs_at h' j o q ho hl hb
                exact ⟨ty, s, d, a1, a2, a3, a4, a5, List.mem_cons_of_mem _ a6⟩
              · cases h
            · cases h
          · cases h
      · exact softPs_at h j o q ho hl hb
    · obtain rfl : j = m := by omega
      rw [softPs, ho] at h
      simp only at h
      rw [if_neg (by rw [hl, hb]; simp)] at h
      split at h
      · rename_i hg
        split at h
        · rename_i ty s d h1 h2
          split at h
          · rename_i hu
            rw [Option.map_eq_some_iff] at h
            obtain ⟨l', h', rfl⟩ := h
            rw [Bool.and_eq_true] at hu
            exact ⟨ty, s, d, by simpa using hg, h1, h2, hu.1, hu.2, List.mem_cons_self⟩
          · cases h
        · cases h
      · cases h
theorem soft_of {ms : List Nat} {i c : Nat} {o : Oper} {ii : I} {l : Fr} (hi : rI P o.op = some ii) (hc : softC ops ms i o = some c) (hs : barOK l ii c) : softAt ops ms i o (trOf l) = true := by
  unfold softC at hc
  split at hc
  · rename_i h1
    split at hc
    · rename_i ps h2
      split at hc
      · rename_i h3
        injection hc with hc
        subst hc
        rcases hs with hs | hs
        · omega
        unfold softB at hs
        split at hs
        · rename_i k hk
          rw [Nat.add_sub_cancel, h3, List.all_eq_true] at hs
          unfold softAt
          rw [h1, stN_of hi hk]
          simp only [Bool.true_and]
          unfold exOK
          rw [List.all_eq_true]
          intro j hj
          rw [List.mem_range] at hj
          split
          · rename_i o' ho'
            cases hl : isLd o'.op with
            | false => rfl
            | true =>
              cases hb : before ms j i with
              | true => rfl
              | false =>
                obtain ⟨ty, s, d, a1, a2, a3, a4, a5, a6⟩ := softPs_at h2 j o' hj ho' hl hb
                have hp := hs _ a6
                rw [Bool.and_eq_true] at hp
                obtain ⟨p1, p2⟩ := hp
                simp only at p1 p2
                unfold lateOK
                rw [a1, a2, a3]
                simp only [trOf_get, a4, a5]
                split at p1
                · rename_i a b1
                  split at p2
                  · rename_i v b3
                    rw [b1, b3]
                    have : a.block ≠ k := fun e => by subst e; rw [Nat.beq_refl] at p1; cases p1
                    simp [this, p2]
                  · cases p2
                · cases p1
          · rfl
        · cases hs
      · cases hc
    · cases hc
  · cases hc

theorem iDraw_sound {ms : List Nat} : ∀ (os : List Oper) (i : Nat) (ios : List (IOp × Bool × Nat × Nat)) (l : Fr) (h : AH) (news : List (Nat × Nat × Nat)) (K : Fr → AH → Prop), h.wlim ≤ h.next → rDs P nt ops ms i os = some (ios.map IOp.erd) → iDraw P i ios l h (nwF news) K →
    ∃ l' h', rDraw P (semC P) nt ops ms i os (trOf l) h news (trOf l') h' ∧ K l' h' := by
  intro os
  induction os with
  | nil =>
    intro i ios l h news K _ hr hk
    simp only [rDs, Option.some.injEq] at hr
    cases ios with
    | nil => exact ⟨l, h, ⟨rfl, rfl⟩, hk⟩
    | cons o r => cases hr
  | cons o os ih =>
    intro i ios l h news K hwl hr hk
    simp only [rDs] at hr
    split at hr
    · rename_i x xs hx hxs
      injection hr with hr
      cases ios with
      | nil => cases hr
      | cons io r =>
        obtain ⟨io, bar, m, c⟩ := io
        simp only [List.map_cons, List.cons.injEq, IOp.erd, Prod.mk.injEq] at hr
        obtain ⟨⟨rfl, hbar, hm, hc⟩, rfl⟩ := hr
        obtain ⟨q1, q2, q3, q4⟩ := rIO_parts hx
        have step : (if bar then barOK l io.i c ∧ iStep P io.w io.i l h fun v h' => iDraw P (i + 1) r (putF io.d v l) h' [] K
            else dStep P i m c io.w io.i l h (nwF news) fun v h' nw => iDraw P (i + 1) r (putF io.d v l) h' nw K) → aWant ops (trOf l) o = some true → ∃ l' h', rDraw P (semC P) nt ops ms i (o :: os) (trOf l) h news (trOf l') h' ∧ K l' h' := by
          intro hs hw
          cases bar with
          | true =>
            simp only [if_true] at hs
            obtain ⟨hs0, hs⟩ := hs
            obtain ⟨v, h1, e1, e2⟩ := iStep_sound (o := o) q1 hs
            have e1' := rStep_congr (envT ops o _) e1
            have g := rStep_grow (semC_ok P) hwl e1'
            obtain ⟨l', h', e3, e4⟩ := ih (i + 1) r _ _ [] _ (by rw [g.wlim]; exact Nat.le_trans hwl g.next) hxs e2
            refine ⟨l', h', .inl ⟨hw, ?_, v, h1, _, e1', put_of q2 q3 v, e3⟩, e4⟩
            cases hB : isBar ops ms i o with
            | true => exact .inl rfl
            | false =>
              rw [hB] at hbar hc
              rw [Bool.false_or, Option.isSome_iff_exists] at hbar
              obtain ⟨e, he⟩ := hbar
              rw [he] at hc
              simp only [Bool.false_eq_true, if_false, Option.getD_some] at hc
              subst hc
              exact .inr (soft_of q1 he hs0)
          | false =>
            simp only [Bool.false_eq_true, if_false] at hs
            rw [Bool.or_eq_false_iff] at hbar
            obtain ⟨hbar, hsof⟩ := hbar
            have hsn' : softC ops ms i o = none := Option.not_isSome_iff_eq_none.1 (by rw [hsof]; simp)
            rw [if_neg (by rw [hbar]; simp), hsn', Option.getD_none] at hc
            unfold dStep at hs
            unfold cxOf at hc
            by_cases hpu : isPure o.op = true
            · rw [if_pos hpu] at hc
              rw [if_pos hc.symm] at hs
              obtain ⟨v, h1, e1, e2⟩ := iStep_sound (o := o) q1 hs
              have e1' := rStep_congr (envT ops o _) e1
              obtain ⟨_, e5⟩ := rStep_pure hpu e1'
              have e6 := e5 (h.view ms i news)
              have : nwF ((i, h.next, (h.view ms i news).next) :: news) = nwF news := by
                unfold nwF
                rw [List.filter_cons, if_neg (by simp [AH.view])]
              rw [← this] at e2
              obtain ⟨l', h', e3, e4⟩ := ih (i + 1) r _ _ _ _ hwl hxs e2
              exact ⟨l', h', .inr (.inl ⟨hw, hbar, by unfold wOK; rw [hpu]; rfl, v, _, _, e6, put_of q2 q3 v, e3⟩), e4⟩
            · rw [if_neg hpu] at hc
              rw [if_neg (by omega)] at hs
              obtain ⟨hs0, hs⟩ := hs
              rw [← hm] at hs0 hs
              have hwk := wOK_eq (o := o) hs0
              split at hs
              · rename_i k hst
                obtain ⟨hl, hs⟩ := hs
                obtain ⟨v, h1, e1, e2⟩ := iStep_sound (o := o) q1 hs
                have e0 : lviewM h (ms.getD i 0) (nwF news) = h.lview ms i news := by
                  unfold lviewM AH.lview
                  rw [view_eq]
                rw [e0] at e1
                have e1' := rStep_congr (envT ops o _) e1
                have hsn := stN_of (ops := ops) q1 hst
                rw [← hc, Nat.add_sub_cancel] at hl
                have hl' := locOK_eq hl
                have g := rStep_grow (semC_ok P) (h := h.lview ms i news) hwl e1'
                have : (i, k + 1, k) :: nwF news = nwF ((i, k + 1, k) :: news) := by
                  unfold nwF
                  rw [List.filter_cons, if_pos (by simp)]
                rw [this] at e2
                obtain ⟨l', h', e3, e4⟩ := ih (i + 1) r _ _ _ _ (by rw [show ({ h1 with hid := h.hid } : AH).wlim = h1.wlim from rfl, g.wlim]; exact Nat.le_trans hwl g.next) hxs e2
                exact ⟨l', h', .inr (.inr (.inl ⟨hw, hbar, hwk, k, v, h1, _, hsn, hl', e1', put_of q2 q3 v, e3⟩)), e4⟩
              · have e0 : lviewM h (ms.getD i 0) (nwF news) = h.lview ms i news := by
                  unfold lviewM AH.lview
                  rw [view_eq]
                split at hs
                · rename_i k hkn
                  rw [e0] at hkn hs
                  obtain ⟨hold, hs⟩ := hs
                  obtain ⟨v, h1, e1, hx, e2⟩ := iStep_sound (o := o) q1 hs
                  have e1' := rStep_congr (envT ops o _) e1
                  have hkn' := kill_of (ops := ops) q1 hkn
                  have g := rStep_grow (semC_ok P) (h := h.lview ms i news) hwl e1'
                  rw [addNews_filter _ _ _ (by omega)] at e2
                  obtain ⟨l', h', e3, e4⟩ := ih (i + 1) r _ _ _ _ (by rw [show ({ h1 with hid := h.hid } : AH).wlim = h1.wlim from rfl, g.wlim]; exact Nat.le_trans hwl g.next) hxs e2
                  exact ⟨l', h', .inr (.inr (.inr (.inr (.inr ⟨hw, hbar, hwk, k, v, h1, _, hkn', oldName_eq hold, hx, e1', put_of q2 q3 v, e3⟩)))), e4⟩
                obtain ⟨v, h1, e1, e2⟩ := iStep_sound (o := o) q1 hs
                rw [← view_eq] at e1
                have e1' := rStep_congr (envT ops o _) e1
                have g := rStep_grow (semC_ok P) (h := h.view ms i news) (Nat.le_refl _) e1'
                have hnx : h.next ≤ h1.next := g.next
                rw [addNews_filter _ _ _ hnx] at e2
                obtain ⟨l', h', e3, e4⟩ := ih (i + 1) r _ _ _ _ (show h.wlim ≤ h1.next from Nat.le_trans hwl hnx) hxs e2
                exact ⟨l', h', .inr (.inl ⟨hw, hbar, hwk, v, h1, _, e1', put_of q2 q3 v, e3⟩), e4⟩
        unfold iDraw at hk
        rcases q4 with ⟨g1, g2⟩ | ⟨j, b, d, g1, g2, g3⟩
        · have g2' : io.g = none := g2
          rw [g2'] at hk
          exact step hk (want_none g1)
        · have g3' : io.g = some (d, b) := g3
          rw [g3'] at hk
          simp only at hk
          split at hk
          · rename_i t ht
            have hw := want_some g1 g2 ht
            by_cases htb : t = b
            · subst htb
              exact step (hk.1 rfl) (by rw [hw]; simp)
            · have htb' : t = !b := ne_not htb
              obtain ⟨l', h', e3, e4⟩ := ih (i + 1) r (putF io.d undef l) h ((i, h.next, h.next) :: news) K hwl hxs (by rw [← addNews_filter _ _ _ (Nat.le_refl _)]; unfold addNews; rw [if_neg (Nat.lt_irrefl _)]; exact hk.2 htb')
              exact ⟨l', h', .inr (.inr (.inr (.inl ⟨by rw [hw]; simp [htb], _, put_of q2 q3 undef, e3⟩))), e4⟩
          · rename_i a ht
            have hw := want_tup g1 g2 ht
            obtain ⟨l', h', e3, e4⟩ := ih (i + 1) r (putF io.d undef l) h ((i, h.next, h.next) :: news) K hwl hxs (by rw [← addNews_filter _ _ _ (Nat.le_refl _)]; unfold addNews; rw [if_neg (Nat.lt_irrefl _)]; exact hk)
            exact ⟨l', h', .inr (.inr (.inr (.inl ⟨hw, _, put_of q2 q3 undef, e3⟩))), e4⟩
          · exact hk.elim
    · cases hr
end
end Go.Vm

