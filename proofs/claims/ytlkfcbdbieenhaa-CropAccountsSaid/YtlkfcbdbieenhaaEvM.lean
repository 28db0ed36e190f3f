/-
  A machine for closed runs, thirteenth part: a region in whatever order.
-/
import Derived.Test.YtlkfcbdbieenhaaEvL
namespace Go.Ev
open Go Go.RowKit

/- a pure operation looks at no memory -/
theorem aOp_pure {P : Program} {h h' : AH} {ρ : Env} {o : Op} {v : Value} (hp : isPure o = true) (e : aOp P h ρ o = some (v, h')) : h' = h ∧ ∀ g, aOp P g ρ o = some (v, g) := by
  unfold isPure at hp
  split at hp <;> first
    | (cases hp; done)
    | (simp only [aOp] at e ⊢
       repeat' split at e
       all_goals first
         | (cases e; done)
         | (simp only [Option.some.injEq, Prod.mk.injEq] at e
            obtain ⟨rfl, rfl⟩ := e
            refine ⟨rfl, fun g => ?_⟩
            simp [*]))
theorem aStep_pure {P : Program} {call : CallF} {h h' : AH} {ρ : Env} {o : Oper} {v : Value} (hp : isPure o.op = true) (e : aStep P call h ρ o = some (v, h')) : h' = h ∧ ∀ g, aStep P call g ρ o = some (v, g) := by
  unfold aStep at e ⊢
  split at e
  · rename_i c hc
    rw [hc] at hp
    cases hp
  · obtain ⟨h1, h2⟩ := aOp_pure hp e
    refine ⟨h1, fun g => ?_⟩
    exact h2 g

section
variable {P : Program} {call : CallF} {nt : Nat} {ops : Array Oper} {L : Log} {W : Nat} {H0 : List (Nat × Nat)}

/- a log of the whole region -/
structure Logged (P : Program) (call : CallF) (nt : Nat) (ops : Array Oper) (L : Log) (W : Nat) (H0 : List (Nat × Nat)) : Prop where
  ok : CallOk P call
  names : namesOk P = true
  slots : slotsOk ops (masks [] ops.toList) = true
  at_ : ∀ j o, ops[j]? = some o → LogAt P call nt ops (masks [] ops.toList) L j o
  p0 : L.p 0 = 0
  wl0 : (L.h 0).wlim = W
  hid0 : (L.h 0).hid = H0
  le0 : W ≤ (L.h 0).next

abbrev lo (L : Log) (j : Nat) : Nat := (L.h j).next

theorem Logged.one (G : Logged P call nt ops L W H0) {j : Nat} (hj : j < ops.size) : ((L.h j).wlim = W → (L.h j).hid = H0 → W ≤ lo L j → lo L j ≤ lo L (j + 1) ∧ (L.h (j + 1)).wlim = W ∧ (L.h (j + 1)).hid = H0) := by
  intro h1 h2 h3
  have hat := G.at_ j _ (Array.getElem?_eq_getElem hj)
  cases hat with
  | skip hw hv ht hh hp => unfold lo; rw [hh]; exact ⟨Nat.le_refl _, h1, h2⟩
  | bar hw hb hs ht hp =>
    have g := aStep_grow G.ok (h1 ▸ h3) hs
    exact ⟨g.next, g.wlim.trans h1, g.hid.trans h2⟩
  | read hw hb h' hs ht hh hp =>
    have g := aStep_grow G.ok (h := L.hin _ j) (Nat.le_refl _) hs
    unfold lo
    rw [hh]
    exact ⟨g.next, h1, h2⟩

theorem Logged.const (G : Logged P call nt ops L W H0) : ∀ (j : Nat), j ≤ ops.size → (L.h j).wlim = W ∧ (L.h j).hid = H0 ∧ lo L 0 ≤ lo L j := by
  intro j
  induction j with
  | zero => intro _; exact ⟨G.wl0, G.hid0, Nat.le_refl _⟩
  | succ j ih =>
    intro hj
    obtain ⟨a, b, c⟩ := ih (by omega)
    obtain ⟨d, e, f⟩ := G.one (by omega) a b (Nat.le_trans G.le0 c)
    exact ⟨e, f, Nat.le_trans c d⟩
theorem Logged.mono (G : Logged P call nt ops L W H0) {i j : Nat} (hij : i ≤ j) (hj : j ≤ ops.size) : lo L i ≤ lo L j := by
  induction j with
  | zero => obtain rfl : i = 0 := by omega
            exact Nat.le_refl _
  | succ j ih =>
    by_cases e : i = j + 1
    · subst e; exact Nat.le_refl _
    · obtain ⟨a, b, c⟩ := G.const j (by omega)
      exact Nat.le_trans (ih (by omega) (by omega)) (G.one (by omega) a b (Nat.le_trans G.le0 c)).1

/- an operation that parts the region -/
def effBar (ops : Array Oper) (L : Log) (j : Nat) : Prop := ∃ o, ops[j]? = some o ∧ aWant ops (L.t j) o = true ∧ isBar ops (masks [] ops.toList) j o = true

theorem Logged.noBar (G : Logged P call nt ops L W H0) {j : Nat} (hj : j < ops.size) (hn : ¬ effBar ops L j) : L.p (j + 1) = L.p j ∧ ∀ k, k < lo L j → (L.h (j + 1)).tr.get k = (L.h j).tr.get k := by
  have ho := Array.getElem?_eq_getElem hj
  have hat := G.at_ j _ ho
  cases hat with
  | skip hw hv ht hh hp => rw [hh]; exact ⟨hp, fun _ _ => rfl⟩
  | bar hw hb hs ht hp => exact absurd ⟨_, ho, hw, hb⟩ hn
  | read hw hb h' hs ht hh hp =>
    have g := aStep_grow G.ok (h := L.hin _ j) (Nat.le_refl _) hs
    refine ⟨hp, fun k hk => ?_⟩
    rw [hh]
    exact g.keep k hk
theorem Logged.chunk (G : Logged P call nt ops L W H0) {s q : Nat} (hq : q ≤ ops.size) (hn : ∀ j, s ≤ j → j < q → ¬ effBar ops L j) : ∀ m, s ≤ m → m ≤ q → L.p m = L.p s ∧ ∀ k, k < lo L s → (L.h m).tr.get k = (L.h s).tr.get k := by
  intro m
  induction m with
  | zero => intro h1 _; obtain rfl : s = 0 := by omega
            exact ⟨rfl, fun _ _ => rfl⟩
  | succ m ih =>
    intro h1 h2
    by_cases e : s = m + 1
    · subst e; exact ⟨rfl, fun _ _ => rfl⟩
    · obtain ⟨a, b⟩ := ih (by omega) (by omega)
      obtain ⟨c, d⟩ := G.noBar (j := m) (by omega) (hn m (by omega) (by omega))
      exact ⟨c.trans a, fun k hk => (d k (Nat.lt_of_lt_of_le hk (G.mono (by omega) (by omega)))).trans (b k hk)⟩

theorem Logged.p_le (G : Logged P call nt ops L W H0) : ∀ (j : Nat), j ≤ ops.size → L.p j ≤ j ∧ ∀ i, i ≤ j → L.p i ≤ L.p j := by
  intro j
  induction j with
  | zero => intro _; exact ⟨by rw [G.p0]; exact Nat.le_refl _, fun i hi => by
      obtain rfl : i = 0 := by omega
      exact Nat.le_refl _⟩
  | succ j ih =>
    intro hj
    obtain ⟨a, b⟩ := ih (by omega)
    have hp : L.p (j + 1) = L.p j ∨ L.p (j + 1) = j + 1 := by
      have hat := G.at_ j _ (Array.getElem?_eq_getElem (by omega))
      cases hat with
      | skip hw hv ht hh hp => exact .inl hp
      | bar hw hb hs ht hp => exact .inr hp
      | read hw hb h' hs ht hh hp => exact .inl hp
    refine ⟨by omega, fun i hi => ?_⟩
    by_cases e : i = j + 1
    · subst e; exact Nat.le_refl _
    · have := b i (by omega); omega

/- names that an operation may see, and those that it may see behind itself -/
def outOk (H0 : List (Nat × Nat)) (k : Nat) : Prop := ∀ p ∈ H0, ¬(p.1 ≤ k ∧ k < p.2)
def inIv (L : Log) (m k : Nat) : Prop := lo L m ≤ k ∧ k < lo L (m + 1)
def VisTo (ops : Array Oper) (L : Log) (H0 : List (Nat × Nat)) (top j k : Nat) : Prop := k < top ∧ outOk H0 k ∧ ∀ m, L.p j ≤ m → m < j → before (masks [] ops.toList) m j = false → ¬ inIv L m k

theorem sees_iff {h : AH} {k : Nat} : h.sees k = true ↔ k < h.next ∧ outOk h.hid k := by
  unfold AH.sees outOk
  rw [Bool.and_eq_true, decide_eq_true_eq, Bool.not_eq_true', List.any_eq_false]
  refine and_congr Iff.rfl ⟨fun b p hp hc => ?_, fun b p hp => ?_⟩
  · have := b p hp
    simp only [Bool.and_eq_true, decide_eq_true_eq] at this
    exact this hc
  · have := b p hp
    simp only [Bool.and_eq_true, decide_eq_true_eq]
    exact this

theorem Logged.hin_sees (G : Logged P call nt ops L W H0) {j : Nat} (hj : j ≤ ops.size) (top : Nat) (k : Nat) : ({ L.hin (masks [] ops.toList) j with next := top } : AH).sees k = true ↔ VisTo ops L H0 top j k := by
  rw [sees_iff]
  obtain ⟨_, b, _⟩ := G.const j hj
  unfold VisTo Log.hin
  dsimp only
  rw [b]
  refine and_congr Iff.rfl ⟨fun h => ⟨fun p hp => h p (List.mem_append_left _ hp), fun m h1 h2 h3 h4 => ?_⟩, fun h p hp => ?_⟩
  · refine h (lo L m, lo L (m + 1)) (List.mem_append_right _ ?_) h4
    refine List.mem_map.2 ⟨(m, lo L m, lo L (m + 1)), List.mem_filter.2 ⟨List.mem_map.2 ⟨m, List.mem_reverse.2 (List.mem_range'_1.2 ⟨h1, by omega⟩), rfl⟩, ?_⟩, rfl⟩
    simp only [Bool.and_eq_true, decide_eq_true_eq, Bool.not_eq_true', h3, and_true]
    have := h4.1; have := h4.2; omega
  · rcases List.mem_append.1 hp with hp | hp
    · exact h.1 p hp
    · obtain ⟨x, hx, rfl⟩ := List.mem_map.1 hp
      obtain ⟨hx1, hx2⟩ := List.mem_filter.1 hx
      obtain ⟨m, hm, rfl⟩ := List.mem_map.1 hx1
      have hm' := List.mem_range'_1.1 (List.mem_reverse.1 hm)
      simp only [Bool.and_eq_true, decide_eq_true_eq, Bool.not_eq_true'] at hx2
      exact h.2 m hm'.1 (by omega) hx2.2

theorem inIv_uniq (G : Logged P call nt ops L W H0) {i j k : Nat} (hi : i < ops.size) (hj : j < ops.size) (a : inIv L i k) (b : inIv L j k) : i = j := by
  rcases Nat.lt_trichotomy i j with h | h | h
  · have := G.mono (i := i + 1) (j := j) (by omega) (by omega); have := a.2; have := b.1; omega
  · exact h
  · have := G.mono (i := j + 1) (j := i) (by omega) (by omega); have := a.1; have := b.2; omega
theorem inIv_find {s q k : Nat} (hsq : s ≤ q) (h1 : lo L s ≤ k) (h2 : k < lo L q) : ∃ j, s ≤ j ∧ j < q ∧ inIv L j k := by
  induction q with
  | zero =>
    obtain rfl : s = 0 := by omega
    omega
  | succ q ih =>
    by_cases e : s = q + 1
    · subst e; omega
    · by_cases h : k < lo L q
      · obtain ⟨j, a, b, c⟩ := ih (by omega) h
        exact ⟨j, a, by omega, c⟩
      · exact ⟨q, by omega, by omega, by omega, h2⟩

def dstOf (ops : Array Oper) (j : Nat) : Option Tmp := (ops[j]?).bind (·.dst)
/- what a slot holds, some operations being done -/
def valOf (ops : Array Oper) (L : Log) (D : Nat → Bool) (d : Nat) : Nat → Value
  | 0 => ((L.t 0).get d).getD undef
  | m + 1 => if D m = true ∧ dstOf ops m = some d then L.v m else valOf ops L D d m

theorem aPut_get {t t' : Tr Value} {dst : Option Tmp} {v : Value} (e : aPut nt t dst v = some t') (d : Nat) : (t'.get d).getD undef = if dst = some d then v else (t.get d).getD undef := by
  cases dst with
  | none => simp only [aPut, Option.some.injEq] at e; subst e; simp
  | some x =>
    simp only [aPut] at e
    split at e
    · injection e with e
      subst e
      rw [Tr.get_put]
      by_cases h : d = x
      · rw [if_pos h, if_pos (by rw [h])]; rfl
      · rw [if_neg h, if_neg (fun e => h (Option.some.inj e).symm)]
    · cases e
theorem aPut_out {t t' : Tr Value} {dst : Option Tmp} {v : Value} (e : aPut nt t dst v = some t') (d : Nat) (hd : nt ≤ d) (h0 : t.get d = none) : t'.get d = none := by
  cases dst with
  | none => simp only [aPut, Option.some.injEq] at e; subst e; exact h0
  | some x =>
    simp only [aPut] at e
    split at e
    · rename_i hx
      injection e with e
      subst e
      rw [Tr.get_put, if_neg (fun (h : d = x) => Nat.lt_irrefl x (Nat.lt_of_lt_of_le hx (h ▸ hd)))]
      exact h0
    · cases e
theorem LogAt.put {ms : List Nat} {i : Nat} {o : Oper} (h : LogAt P call nt ops ms L i o) : aPut nt (L.t i) o.dst (L.v i) = some (L.t (i + 1)) := by
  cases h with
  | skip hw hv ht hh hp => rw [hv]; exact ht
  | bar hw hb hs ht hp => exact ht
  | read hw hb h' hs ht hh hp => exact ht

theorem Logged.text (G : Logged P call nt ops L W H0) (d : Nat) : ∀ m, m ≤ ops.size → ((L.t m).get d).getD undef = valOf ops L (fun _ => true) d m := by
  intro m
  induction m with
  | zero => intro _; rfl
  | succ m ih =>
    intro hm
    have ho := Array.getElem?_eq_getElem (xs := ops) (i := m) (by omega)
    rw [aPut_get (G.at_ m _ ho).put d, ih (by omega)]
    simp only [valOf, dstOf, ho, Option.bind_some, true_and]

/- at an operation that can be carried out, its slots hold what they held in the order of the text -/
theorem Logged.slot (G : Logged P call nt ops L W H0) {D : Nat → Bool} (hc : Closed ops D) {i : Nat} {o : Oper} (ho : ops[i]? = some o) (hi : D i = false) (hb : ∀ j, before (masks [] ops.toList) j i = true → D j = true) {d : Nat} (hd : d ∈ touch ops o) : valOf ops L D d ops.size = ((L.t i).get d).getD undef := by
  have hlt : i < ops.size := (Array.getElem?_eq_some_iff.1 ho).1
  rw [G.text d i (by omega)]
  have h1 : ∀ m, i ≤ m → m ≤ ops.size → valOf ops L D d m = valOf ops L D d i := by
    intro m
    induction m with
    | zero => intro h _; obtain rfl : i = 0 := by omega
              rfl
    | succ m ih =>
      intro h h'
      by_cases e : i = m + 1
      · rw [e]
      · rw [← ih (by omega) (by omega)]
        simp only [valOf]
        rw [if_neg]
        rintro ⟨hD, hdst⟩
        have hom := Array.getElem?_eq_getElem (xs := ops) (i := m) (by omega)
        by_cases e2 : m = i
        · subst e2; rw [hi] at hD; cases hD
        · have := slots_ordered G.slots ho hom e2 (by simpa [dstOf, hom] using hdst) hd
          unfold ordered at this
          rw [if_neg (by omega)] at this
          have := hc.before G.slots m i hD this
          rw [hi] at this
          cases this
  rw [h1 ops.size (by omega) (Nat.le_refl _)]
  have h2 : ∀ m, m ≤ i → valOf ops L D d m = valOf ops L (fun _ => true) d m := by
    intro m
    induction m with
    | zero => intro _; rfl
    | succ m ih =>
      intro h
      simp only [valOf, true_and]
      by_cases hdst : dstOf ops m = some d
      · have hom := Array.getElem?_eq_getElem (xs := ops) (i := m) (by omega)
        have := slots_ordered G.slots ho hom (by omega) (by simpa [dstOf, hom] using hdst) hd
        unfold ordered at this
        rw [if_pos (by omega)] at this
        rw [if_pos ⟨hb m this, hdst⟩, if_pos hdst]
      · rw [if_neg (fun h => hdst h.2), if_neg hdst]
        exact ih (by omega)
  exact h2 i (Nat.le_refl _)

/- where the value of a slot comes from -/
theorem valOf_src {D : Nat → Bool} {d : Nat} : ∀ m, (valOf ops L D d m = ((L.t 0).get d).getD undef) ∨ ∃ j, j < m ∧ D j = true ∧ dstOf ops j = some d ∧ valOf ops L D d m = L.v j := by
  intro m
  induction m with
  | zero => exact .inl rfl
  | succ m ih =>
    simp only [valOf]
    by_cases h : D m = true ∧ dstOf ops m = some d
    · rw [if_pos h]; exact .inr ⟨m, by omega, h.1, h.2, rfl⟩
    · rw [if_neg h]
      rcases ih with ih | ⟨j, a, b, c, e⟩
      · exact .inl ih
      · exact .inr ⟨j, by omega, b, c, e⟩

def upD (D : Nat → Bool) (i : Nat) : Nat → Bool := fun j => if j = i then true else D j
theorem valOf_up (G : Logged P call nt ops L W H0) {D : Nat → Bool} (hc : Closed ops D) {i : Nat} {o : Oper} (ho : ops[i]? = some o) (hi : D i = false) (d : Nat) : valOf ops L (upD D i) d ops.size = if o.dst = some d then L.v i else valOf ops L D d ops.size := by
  have hlt : i < ops.size := (Array.getElem?_eq_some_iff.1 ho).1
  have low : ∀ m, m ≤ i → valOf ops L (upD D i) d m = valOf ops L D d m := by
    intro m
    induction m with
    | zero => intro _; rfl
    | succ m ih =>
      intro h
      simp only [valOf, ih (by omega)]
      have : upD D i m = D m := if_neg (by omega)
      rw [this]
  have mid : valOf ops L (upD D i) d (i + 1) = if o.dst = some d then L.v i else valOf ops L D d (i + 1) := by
    have e1 : upD D i i = true := if_pos rfl
    have e2 : dstOf ops i = o.dst := by simp [dstOf, ho]
    simp only [valOf, e1, e2, true_and, hi, Bool.false_eq_true, false_and, if_false, low i (Nat.le_refl _)]
  have high : ∀ m, i + 1 ≤ m → m ≤ ops.size → valOf ops L (upD D i) d m = if o.dst = some d then L.v i else valOf ops L D d m := by
    intro m
    induction m with
    | zero => intro h _; omega
    | succ m ih =>
      intro h h'
      by_cases e : i = m
      · subst e; exact mid
      · have e1 : upD D i m = D m := if_neg (by omega)
        simp only [valOf, e1]
        rw [ih (by omega) (by omega)]
        by_cases hm : D m = true ∧ dstOf ops m = some d
        · rw [if_pos hm, if_pos hm]
          rw [if_neg]
          intro hd
          have hom := Array.getElem?_eq_getElem (xs := ops) (i := m) (by omega)
          have := slots_ordered G.slots ho hom (by omega) (d := d) (by simpa [dstOf, hom] using hm.2) (by unfold touch; simp [hd])
          unfold ordered at this
          rw [if_neg (by omega)] at this
          have := hc.before G.slots m i hm.1 this
          rw [hi] at this
          cases this
        · rw [if_neg hm, if_neg hm]
  exact high ops.size (by omega) (Nat.le_refl _)
end
end Go.Ev
