/-
  A machine for closed runs, fourteenth part: what holds when some operations are done.
-/
import Derived.Test.YtlkfcbdbieenhaaEvM
namespace Go.Ev
open Go Go.RowKit

def Av (ops : Array Oper) (L : Log) (D : Nat → Bool) (k : Nat) : Prop := ∀ m, m < ops.size → D m = false → ¬ inIv L m k
def VB (L : Log) (H0 : List (Nat × Nat)) (D : Nat → Bool) (q k : Nat) : Prop := (k < lo L (L.p q) ∧ outOk H0 k) ∨ ∃ j, L.p q ≤ j ∧ j < q ∧ D j = true ∧ inIv L j k

structure SInv (ds : List Deferred) (nt : Nat) (ops : Array Oper) (L : Log) (W : Nat) (H0 : List (Nat × Nat)) (D : Nat → Bool) (q : Nat) (w0 : World) (φ : Nat → Nat × Nat) (κ : Nat → Nat) (a : Act) (w : World) : Prop where
  qle : q ≤ ops.size
  qlow : ∀ j, j < q → effBar ops L j → D j = true
  qbar : q < ops.size → effBar ops L q ∧ D q = false
  closed : Closed ops D
  below : Below w0.heap.size w0 w
  defers : a.defers = ds
  size : a.tmps.size = nt
  tm : ∀ d, d < nt → a.tmps[d]? = some (ren φ κ (valOf ops L D d ops.size))
  t0ok : ∀ d, okV (fun k => k < lo L 0 ∧ outOk H0 k) κ (((L.t 0).get d).getD undef)
  vok : ∀ j, j < ops.size → D j = true → okV (fun k => VisTo ops L H0 (lo L (j + 1)) j k ∧ Av ops L D k) κ (L.v j)
  ent1 : ∀ k o, k < lo L (L.p q) → outOk H0 k → (L.h q).tr.get k = some o → entOK φ κ (fun x => x < lo L (L.p q) ∧ outOk H0 x) w k o
  ent2 : ∀ j k o, L.p q ≤ j → j < q → D j = true → inIv L j k → (L.h q).tr.get k = some o → entOK φ κ (VisTo ops L H0 (lo L (j + 1)) j) w k o
  own : ∀ k o, VB L H0 D q k → (L.h q).tr.get k = some o → W ≤ k → w0.heap.size ≤ (φ k).1
  inj : ∀ k k' o o', VB L H0 D q k → VB L H0 D q k' → (L.h q).tr.get k = some o → (L.h q).tr.get k' = some o' → (φ k).1 = (φ k').1 → k = k'

section
variable {P : Program} {call : CallF} {nt : Nat} {ops : Array Oper} {L : Log} {W : Nat} {H0 : List (Nat × Nat)}
variable {D : Nat → Bool} {q : Nat} {w0 w w' : World} {φ φ' : Nat → Nat × Nat} {κ κ' : Nat → Nat} {a : Act} {ds : List Deferred}

theorem iv_heap (G : Logged P call nt ops L W H0) {m k : Nat} {o : Oper} (ho : ops[m]? = some o) (h : inIv L m k) : isPure o.op = false ∧ aWant ops (L.t m) o = true := by
  have hat := G.at_ m o ho
  cases hat with
  | skip hw hv ht hh hp => unfold inIv lo at h; rw [hh] at h; omega
  | bar hw hb hs ht hp =>
    refine ⟨?_, hw⟩
    unfold isBar at hb
    simp only [Bool.and_eq_true, Bool.not_eq_true'] at hb
    exact hb.1
  | read hw hb h' hs ht hh hp =>
    refine ⟨?_, hw⟩
    cases hp : isPure o.op with
    | false => rfl
    | true =>
      obtain ⟨e, _⟩ := aStep_pure hp hs
      unfold inIv lo at h
      rw [hh, e] at h
      have h1 := h.1
      have h2 : k < (L.h m).next := h.2
      omega

theorem p_bar (G : Logged P call nt ops L W H0) : ∀ (j : Nat), j ≤ ops.size → L.p j = 0 ∨ effBar ops L (L.p j - 1) ∧ 0 < L.p j := by
  intro j
  induction j with
  | zero => intro _; exact .inl G.p0
  | succ j ih =>
    intro hj
    have ho := Array.getElem?_eq_getElem (xs := ops) (i := j) (by omega)
    have hat := G.at_ j _ ho
    cases hat with
    | skip hw hv ht hh hp => rw [hp]; exact ih (by omega)
    | bar hw hb hs ht hp => rw [hp]; exact .inr ⟨⟨_, ho, hw, hb⟩, by omega⟩
    | read hw hb h' hs ht hh hp => rw [hp]; exact ih (by omega)

theorem no_bar (G : Logged P call nt ops L W H0) (hq : q ≤ ops.size) {j : Nat} (h1 : L.p q ≤ j) (h2 : j < q) : ¬ effBar ops L j := by
  rintro ⟨o, ho, hw, hb⟩
  have hat := G.at_ j o ho
  have hp : L.p (j + 1) = j + 1 := by
    cases hat with
    | skip hw' hv ht hh hp => rw [hw] at hw'; cases hw'
    | bar hw hb hs ht hp => exact hp
    | read hw hb' h' hs ht hh hp => rw [hb] at hb'; cases hb'
  have := (G.p_le q hq).2 (j + 1) (by omega)
  omega

theorem bar_before {b j : Nat} {o : Oper} (hb : effBar ops L b) (ho : ops[j]? = some o) (hp : isPure o.op = false) (hne : j ≠ b) : if j < b then before (masks [] ops.toList) j b = true else before (masks [] ops.toList) b j = true := by
  obtain ⟨ob, hob, hw, hbar⟩ := hb
  have := bar_ordered hbar ho hne hp
  unfold ordered at this
  by_cases h : j < b
  · rw [if_pos h] at this ⊢
    exact this
  · rw [if_neg h] at this ⊢
    exact this

/- what an operation's slots hold may be seen by it -/
theorem src_ok (G : Logged P call nt ops L W H0) (I : SInv ds nt ops L W H0 D q w0 φ κ a w) {i : Nat} {o : Oper} (ho : ops[i]? = some o) (hi : D i = false) {d : Nat} (hd : d ∈ touch ops o) : okV (fun k => VisTo ops L H0 (lo L i) i k ∧ Av ops L D k) κ (valOf ops L D d ops.size) := by
  have hlt : i < ops.size := (Array.getElem?_eq_some_iff.1 ho).1
  rcases valOf_src (ops := ops) (L := L) (D := D) (d := d) ops.size with h | ⟨j, hj, hDj, hdst, h⟩
  · rw [h]
    refine ok_mono (fun k hk => ⟨⟨Nat.lt_of_lt_of_le hk.1 (G.const i (by omega)).2.2, hk.2, fun m _ hm _ hv => ?_⟩, fun m hm _ hv => ?_⟩) (fun _ _ => rfl) _ (I.t0ok d)
    · have := (G.const m (by omega)).2.2; have := hv.1; omega
    · have := (G.const m (by omega)).2.2; have := hv.1; omega
  · rw [h]
    have hne : j ≠ i := fun e => by rw [e, hi] at hDj; cases hDj
    have hoj := Array.getElem?_eq_getElem hj
    have hord := slots_ordered G.slots ho hoj hne (by simpa [dstOf, hoj] using hdst) hd
    unfold ordered at hord
    have hji : j < i := by
      rcases Nat.lt_or_ge j i with h | h
      · exact h
      · rw [if_neg (by omega)] at hord
        have := I.closed.before G.slots j i hDj hord
        rw [hi] at this
        cases this
    rw [if_pos hji] at hord
    refine ok_mono (fun k hk => ⟨⟨Nat.lt_of_lt_of_le hk.1.1 (G.mono (by omega) (by omega)), hk.1.2.1, fun m h1 h2 h3 hv => ?_⟩, hk.2⟩) (fun _ _ => rfl) _ (I.vok j hj hDj)
    have hmj : m ≤ j := by
      rcases Nat.lt_or_ge j m with h | h
      · have := G.mono (i := j + 1) (j := m) (by omega) (by omega)
        have := hv.1
        have := hk.1.1
        omega
      · exact h
    by_cases e : m = j
    · rw [e, hord] at h3; cases h3
    · cases hb : before (masks [] ops.toList) m j with
      | true => rw [before_trans G.slots i j m hord hb] at h3; cases h3
      | false => exact hk.1.2.2 m (Nat.le_trans ((G.p_le i (by omega)).2 j (by omega)) h1) (by omega) hb hv

theorem out_t (G : Logged P call nt ops L W H0) (h0 : ∀ d, nt ≤ d → (L.t 0).get d = none) : ∀ m, m ≤ ops.size → ∀ d, nt ≤ d → (L.t m).get d = none := by
  intro m
  induction m with
  | zero => intro _; exact h0
  | succ m ih =>
    intro hm d hd
    exact aPut_out (G.at_ m _ (Array.getElem?_eq_getElem (by omega))).put d hd (ih (by omega) d hd)

theorem sinv_env (G : Logged P call nt ops L W H0) (h0 : ∀ d, nt ≤ d → (L.t 0).get d = none) (I : SInv ds nt ops L W H0 D q w0 φ κ a w) {i : Nat} {o : Oper} (ho : ops[i]? = some o) (hi : D i = false) (hb : ∀ j, before (masks [] ops.toList) j i = true → D j = true) {N : Nat → Prop} (hN : ∀ k, VisTo ops L H0 (lo L i) i k → Av ops L D k → N k) : ERel φ κ N (aEnvT (touch ops o) (L.t i)) a.eval := by
  have hlt : i < ops.size := (Array.getElem?_eq_some_iff.1 ho).1
  intro x v e
  cases x with
  | tmp d =>
    simp only [aEnvT] at e
    split at e
    · rename_i hc
      have hd : d ∈ touch ops o := List.contains_iff_mem.1 hc
      injection e with e
      have hs := G.slot I.closed ho hi hb hd
      have hok := src_ok G I ho hi hd
      rw [hs, e] at hok
      refine ⟨?_, ok_mono (fun k hk => hN k hk.1 hk.2) (fun _ _ => rfl) _ hok⟩
      simp only [Act.eval]
      by_cases hdn : d < nt
      · rw [Array.getD_eq_getD_getElem?, I.tm d hdn, hs, e]; rfl
      · rw [Array.getD_eq_getD_getElem?, Array.getElem?_eq_none (by rw [I.size]; exact Nat.le_of_not_lt hdn), ← e, out_t G h0 i (by omega) d (Nat.le_of_not_lt hdn)]; rfl
    · cases e
  | const u =>
    simp only [aEnvT] at e
    split at e
    · rename_i hn
      injection e with e
      subst e
      exact ⟨(ren_noAddr _ _ _ hn).symm, ok_noAddr _ _ _ hn⟩
    · cases e
  | global g => cases e
  | func f =>
    simp only [aEnvT, Option.some.injEq] at e
    subst e
    exact ⟨rfl, by simp [okV, okF, okA, okL]⟩

theorem sinv_want (G : Logged P call nt ops L W H0) (h0 : ∀ d, nt ≤ d → (L.t 0).get d = none) (I : SInv ds nt ops L W H0 D q w0 φ κ a w) {i : Nat} {o : Oper} (ho : ops[i]? = some o) (hi : D i = false) (hb : ∀ j, before (masks [] ops.toList) j i = true → D j = true) : Region.wanted o (yielded ops a.tmps) = aWant ops (L.t i) o := by
  have hlt : i < ops.size := (Array.getElem?_eq_some_iff.1 ho).1
  unfold Region.wanted aWant
  cases hg : o.guard with
  | none => rfl
  | some g =>
    obtain ⟨j, want⟩ := g
    simp only [yielded]
    cases hd : (ops[j]?).bind (·.dst) with
    | none => rfl
    | some d =>
      simp only [Option.bind_some]
      have ht : d ∈ touch ops o := by unfold touch; simp [hg, hd]
      have hs := G.slot I.closed ho hi hb ht
      by_cases hdn : d < nt
      · rw [I.tm d hdn, hs]
        cases hv : (L.t i).get d with
        | none => rfl
        | some v =>
          cases v with
          | bool b => cases b <;> cases want <;> rfl
          | pointer x => cases x <;> rfl
          | slice x _ _ => cases x <;> rfl
          | map x => cases x <;> rfl
          | _ => rfl
      · rw [Array.getElem?_eq_none (by rw [I.size]; exact Nat.le_of_not_lt hdn), out_t G h0 i (by omega) d (Nat.le_of_not_lt hdn)]
        rfl

theorem upD_closed (hc : Closed ops D) {i : Nat} {o : Oper} (ho : ops[i]? = some o) (hr : ∀ e ∈ o.after, Region.binds .any e = true → D e.on = true) : Closed ops (upD D i) := by
  intro j oj hj hDj e he hb
  unfold upD at *
  by_cases e1 : e.on = i
  · rw [if_pos e1]
  · rw [if_neg e1]
    by_cases e2 : j = i
    · subst e2
      obtain rfl := Option.some.inj (ho.symm.trans hj)
      exact hr e he hb
    · rw [if_neg e2] at hDj
      exact hc j oj hj hDj e he hb
theorem upD_le {i j : Nat} (h : D j = true) : upD D i j = true := by unfold upD; split <;> simp_all
theorem upD_self (i : Nat) : upD D i i = true := if_pos rfl
theorem upD_false {i m : Nat} (h : upD D i m = false) : m ≠ i ∧ D m = false := by
  unfold upD at h
  split at h
  · cases h
  · exact ⟨by assumption, h⟩
theorem Av_up {i k : Nat} (h : Av ops L D k) : Av ops L (upD D i) k := fun m hm hd => h m hm (upD_false hd).2

/- a slot written -/
theorem tm_put (G : Logged P call nt ops L W H0) (hc : Closed ops D) {i : Nat} {o : Oper} (ho : ops[i]? = some o) (hi : D i = false) (hsz : a.tmps.size = nt)
    (htm : ∀ d, d < nt → a.tmps[d]? = some (ren φ κ (valOf ops L D d ops.size))) (d : Nat) (hd : d < nt) : (a.put o.dst (ren φ κ (L.v i))).tmps[d]? = some (ren φ κ (valOf ops L (upD D i) d ops.size)) := by
  rw [valOf_up G hc ho hi d]
  cases hdst : o.dst with
  | none => simp only [Act.put]; rw [if_neg (by simp)]; exact htm d hd
  | some x =>
    simp only [Act.put]
    by_cases e : x = d
    · subst e
      rw [if_pos rfl, Array.getElem?_setIfInBounds_self_of_lt (by rw [hsz]; exact hd)]
    · rw [if_neg (fun h => e (Option.some.inj h)), Array.getElem?_setIfInBounds_ne e]
      exact htm d hd
theorem put_size (o : Option Tmp) (v : Value) : (a.put o v).tmps.size = a.tmps.size := by
  cases o <;> simp [Act.put]
theorem put_defers (o : Option Tmp) (v : Value) : (a.put o v).defers = a.defers := by
  cases o <;> rfl

/- an operation that touches no memory -/
theorem sinv_quiet (G : Logged P call nt ops L W H0) (I : SInv ds nt ops L W H0 D q w0 φ κ a w) {i : Nat} {o : Oper} (ho : ops[i]? = some o) (hi : D i = false) (hr : ∀ e ∈ o.after, Region.binds .any e = true → D e.on = true)
    (hq : i ≠ q) (hw : Below w.heap.size w w') (hiv : ∀ k, ¬ inIv L i k) (hv : okV (fun k => VisTo ops L H0 (lo L (i + 1)) i k ∧ Av ops L (upD D i) k) κ (L.v i)) : SInv ds nt ops L W H0 (upD D i) q w0 φ κ (a.put o.dst (ren φ κ (L.v i))) w' := by
  have hvb : ∀ k, VB L H0 (upD D i) q k → VB L H0 D q k := by
    rintro k (h | ⟨j, h1, h2, h3, h4⟩)
    · exact .inl h
    · by_cases e : j = i
      · subst e; exact absurd h4 (hiv k)
      · exact .inr ⟨j, h1, h2, by unfold upD at h3; rwa [if_neg e] at h3, h4⟩
  exact ⟨I.qle, fun j hj hb => upD_le (I.qlow j hj hb), fun h => ⟨(I.qbar h).1, by unfold upD; rw [if_neg (fun e => hq e.symm)]; exact (I.qbar h).2⟩, upD_closed I.closed ho hr, I.below.trans (hw.mono I.below.size), (put_defers _ _).trans I.defers, (put_size _ _).trans I.size, tm_put G I.closed ho hi I.size I.tm, I.t0ok,
    fun j hj hD => by
      by_cases e : j = i
      · subst e; exact hv
      · unfold upD at hD
        rw [if_neg e] at hD
        exact ok_mono (fun k hk => ⟨hk.1, Av_up hk.2⟩) (fun _ _ => rfl) _ (I.vok j hj hD),
    fun k ob h1 h2 h3 => (I.ent1 k ob h1 h2 h3).move (fun _ h => h) (fun _ _ => ⟨rfl, rfl⟩) ⟨rfl, rfl⟩ (hw.block _ (I.ent1 k ob h1 h2 h3).lt), fun j k ob h1 h2 h3 h4 h5 => by
      by_cases e : j = i
      · subst e; exact absurd h4 (hiv k)
      · unfold upD at h3
        rw [if_neg e] at h3
        exact (I.ent2 j k ob h1 h2 h3 h4 h5).move (fun _ h => h) (fun _ _ => ⟨rfl, rfl⟩) ⟨rfl, rfl⟩ (hw.block _ (I.ent2 j k ob h1 h2 h3 h4 h5).lt),
    fun k ob hk => I.own k ob (hvb k hk), fun k k' o1 o2 hk hk' => I.inj k k' o1 o2 (hvb k hk) (hvb k' hk')⟩
end
end Go.Ev
