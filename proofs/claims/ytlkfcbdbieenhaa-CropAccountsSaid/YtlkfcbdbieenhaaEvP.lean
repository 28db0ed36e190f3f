/-
  A machine for closed runs, sixteenth part: the whole region.
-/
import Derived.Test.YtlkfcbdbieenhaaEvO
import Derived.OrdersIn
namespace Go.Ev
open Go Go.RowKit

section
variable {P : Program} {call : CallF} {nt : Nat} {ops : Array Oper} {L : Log} {W : Nat} {H0 : List (Nat × Nat)}
variable {D : Nat → Bool} {q : Nat} {w0 w w' : World} {φ φ' : Nat → Nat × Nat} {κ κ' : Nat → Nat} {a : Act} {ds : List Deferred} {rd : Option Nat}

theorem next_bar (ops : Array Oper) (L : Log) : ∀ (d s : Nat), s + d = ops.size → ∃ q, s ≤ q ∧ q ≤ ops.size ∧ (∀ j, s ≤ j → j < q → ¬ effBar ops L j) ∧ (q < ops.size → effBar ops L q) := by
  intro d
  induction d with
  | zero => intro s h; exact ⟨s, Nat.le_refl _, by omega, fun j _ _ => by omega, fun _ => by omega⟩
  | succ d ih =>
    intro s h
    by_cases hb : effBar ops L s
    · exact ⟨s, Nat.le_refl _, by omega, fun j _ _ => by omega, fun _ => hb⟩
    · obtain ⟨q, h1, h2, h3, h4⟩ := ih (s + 1) (by omega)
      refine ⟨q, by omega, h2, fun j a b => ?_, h4⟩
      by_cases e : j = s
      · subst e; exact hb
      · exact h3 j (by omega) b

theorem bar_is (I : SInv ds nt ops L W H0 D q w0 φ κ a w) {i : Nat} (hlt : i < ops.size) (hbar : effBar ops L i) (hi : D i = false) (hb : ∀ j, before (masks [] ops.toList) j i = true → D j = true) : i = q := by
  rcases Nat.lt_trichotomy i q with h | h | h
  · rw [I.qlow i h hbar] at hi; cases hi
  · exact h
  · obtain ⟨b1, b2⟩ := I.qbar (by omega)
    obtain ⟨o, ho, _, hbo⟩ := hbar
    have hp : isPure o.op = false := by
      unfold isBar at hbo
      simp only [Bool.and_eq_true, Bool.not_eq_true'] at hbo
      exact hbo.1
    have := bar_before b1 ho hp (by omega)
    rw [if_neg (by omega)] at this
    rw [hb q this] at b2
    cases b2

theorem bar_pure {i : Nat} {o : Oper} (ho : ops[i]? = some o) (hbar : effBar ops L i) : isPure o.op = false := by
  obtain ⟨o', ho', _, hbo⟩ := hbar
  obtain rfl := Option.some.inj (ho.symm.trans ho')
  unfold isBar at hbo
  simp only [Bool.and_eq_true, Bool.not_eq_true'] at hbo
  exact hbo.1

theorem all_rel (G : Logged P call nt ops L W H0) (hb0 : ∀ p ∈ H0, p.2 ≤ (L.h 0).next) (I : SInv ds nt ops L W H0 D q w0 φ κ a w) (hdone : ∀ j k, j < q → inIv L j k → D j = true) : Rel w0 φ κ (L.h q) w := by
  have hlt := I.qle
  obtain ⟨c1, c2, c3⟩ := G.const q (by omega)
  have hN : ∀ k, (L.h q).N k ↔ k < lo L q ∧ outOk H0 k := fun k => by rw [N_iff, c2]
  have split : ∀ k ob, (L.h q).get k = some ob → (L.h q).tr.get k = some ob ∧ ((k < lo L (L.p q) ∧ outOk H0 k) ∨ ∃ j, L.p q ≤ j ∧ j < q ∧ D j = true ∧ inIv L j k) := by
    intro k ob g
    obtain ⟨v1, v2⟩ := (hN k).1 (get_sees g)
    refine ⟨get_tr g, ?_⟩
    rcases Nat.lt_or_ge k (lo L (L.p q)) with h | h
    · exact .inl ⟨h, v2⟩
    · obtain ⟨j, a1, a2, a3⟩ := inIv_find (G.p_le q (by omega)).1 h v1
      exact .inr ⟨j, a1, a2, hdone j k a2 a3, a3⟩
  refine ⟨I.below, fun p hp => ?_, ?_, fun k ob g => ?_, fun k ob g hk => ?_, fun k k' o1 o2 g1 g2 => ?_⟩
  · rw [c2] at hp
    exact Nat.le_trans (hb0 p hp) c3
  · rw [c1]
    exact Nat.le_trans G.le0 c3
  · obtain ⟨a1, a2 | ⟨j, b1, b2, b3, b4⟩⟩ := split k ob g
    · exact (I.ent1 k ob a2.1 a2.2 a1).move (fun x hx => (hN x).2 ⟨Nat.lt_of_lt_of_le hx.1 (G.mono (G.p_le q (by omega)).1 (by omega)), hx.2⟩) (fun _ _ => ⟨rfl, rfl⟩) ⟨rfl, rfl⟩ rfl
    · exact (I.ent2 j k ob b1 b2 b3 b4 a1).move (fun x hx => (hN x).2 ⟨Nat.lt_of_lt_of_le hx.1 (G.mono (by omega) (by omega)), hx.2.1⟩) (fun _ _ => ⟨rfl, rfl⟩) ⟨rfl, rfl⟩ rfl
  · obtain ⟨a1, a2⟩ := split k ob g
    rw [c1] at hk
    exact I.own k ob a2 a1 hk
  · obtain ⟨a1, a2⟩ := split k o1 g1
    obtain ⟨b1, b2⟩ := split k' o2 g2
    exact I.inj k k' o1 o2 a2 b2 a1 b1

theorem bar_rel (G : Logged P call nt ops L W H0) (hb0 : ∀ p ∈ H0, p.2 ≤ (L.h 0).next) (I : SInv ds nt ops L W H0 D q w0 φ κ a w) (hlt : q < ops.size) (hb : ∀ j, before (masks [] ops.toList) j q = true → D j = true) : Rel w0 φ κ (L.h q) w := by
  refine all_rel G hb0 I fun j k a2 a3 => ?_
  have hoj := Array.getElem?_eq_getElem (xs := ops) (i := j) (by omega)
  have := bar_before (I.qbar hlt).1 hoj (iv_heap G hoj a3).1 (by omega)
  rw [if_pos a2] at this
  exact hb j this

theorem sinv_bar (G : Logged P call nt ops L W H0) (I : SInv ds nt ops L W H0 D q w0 φ κ a w) {o : Oper} (ho : ops[q]? = some o) (hlt : q < ops.size) (hr : ∀ e ∈ o.after, Region.binds .any e = true → D e.on = true) (hb : ∀ j, before (masks [] ops.toList) j q = true → D j = true)
    (S : Step w0 φ κ (L.h q) φ' κ' (L.h (q + 1)) w') (ov : okV (L.h (q + 1)).N κ' (L.v q)) : ∃ q', SInv ds nt ops L W H0 (upD D q) q' w0 φ' κ' (a.put o.dst (ren φ' κ' (L.v q))) w' := by
  obtain ⟨hbar, hDq⟩ := I.qbar hlt
  obtain ⟨q', n1, n2, n3, n4⟩ := next_bar ops L (ops.size - (q + 1)) (q + 1) (by omega)
  have hpq1 : L.p (q + 1) = q + 1 := by
    obtain ⟨o', ho', hw, hbo⟩ := hbar
    cases G.at_ q o' ho' with
    | skip hw' hv ht hh hp => rw [hw] at hw'; cases hw'
    | bar hw hb hs ht hp => exact hp
    | read hw hb' h' hs ht hh hp => rw [hbo] at hb'; cases hb'
  have hch := G.chunk (s := q + 1) n2 n3 q' n1 (Nat.le_refl _)
  have hpq : L.p q' = q + 1 := hch.1.trans hpq1
  obtain ⟨c1, c2, c3⟩ := G.const (q + 1) (by omega)
  obtain ⟨d1, d2, d3⟩ := G.const q (by omega)
  have hN : ∀ k, (L.h (q + 1)).N k ↔ k < lo L (q + 1) ∧ outOk H0 k := fun k => by rw [N_iff, c2]
  have agr : ∀ k, ¬ inIv L q k → φ' k = φ k ∧ κ' k = κ k := fun k hk => S.agr k hk
  have avi : ∀ k, Av ops L D k → ¬ inIv L q k := fun k h => h q hlt hDq
  -- behind the parting operation none that looks at memory is done
  have later : ∀ j k, q + 1 ≤ j → j < ops.size → upD D q j = true → ¬ inIv L j k := by
    intro j k hj hjs hD hv
    have hoj := Array.getElem?_eq_getElem hjs
    have := bar_before hbar hoj (iv_heap G hoj hv).1 (by omega)
    rw [if_neg (by omega)] at this
    unfold upD at hD
    rw [if_neg (by omega)] at hD
    have := I.closed.before G.slots j q hD this
    rw [hDq] at this
    cases this
  have hsrc : ∀ d, ren φ' κ' (valOf ops L D d ops.size) = ren φ κ (valOf ops L D d ops.size) := by
    intro d
    rcases valOf_src (ops := ops) (L := L) (D := D) (d := d) ops.size with h | ⟨j, hj, hDj, _, h⟩
    · rw [h]
      exact ren_congr (fun k hk => agr k (fun hv => by
        have := hv.1
        have := hk.1
        omega)) _ (I.t0ok d)
    · rw [h]
      exact ren_congr (fun k hk => agr k (avi k hk.2)) _ (I.vok j hj hDj)
  have get1 : ∀ k ob, VB L H0 (upD D q) q' k → (L.h q').tr.get k = some ob → (L.h (q + 1)).get k = some ob := by
    rintro k ob (⟨h1, h2⟩ | ⟨j, h1, h2, h3, h4⟩) g
    · rw [hpq] at h1
      unfold AH.get
      have hs : (L.h (q + 1)).sees k = true := (hN k).2 ⟨h1, h2⟩
      rw [if_pos hs, ← hch.2 k h1]
      exact g
    · exact absurd h4 (later j k (by omega) (by omega) h3)
  refine ⟨q', n2, fun j hj hbj => ?_, fun h => ⟨n4 h, ?_⟩, upD_closed I.closed ho hr, S.rel.below, (put_defers _ _).trans I.defers, (put_size _ _).trans I.size, tm_put G I.closed ho hDq I.size (fun d hd => by rw [hsrc]; exact I.tm d hd), fun d => ?_, fun j hj hD => ?_, fun k ob k1 k2 g => ?_, fun j k ob k1 k2 k3 k4 _ => ?_, fun k ob k1 g hk => ?_, fun k k' o1 o2 k1 k2 g1 g2 he => ?_⟩
  · rcases Nat.lt_trichotomy j q with h | h | h
    · exact upD_le (I.qlow j h hbj)
    · subst h; exact upD_self _
    · exact absurd hbj (n3 j (by omega) hj)
  · unfold upD
    rw [if_neg (by omega)]
    cases hD : D q' with
    | false => rfl
    | true =>
      have hbq' := n4 h
      have hoq' := Array.getElem?_eq_getElem h
      have := bar_before hbar hoq' (bar_pure hoq' hbq') (by omega)
      rw [if_neg (by omega)] at this
      have := I.closed.before G.slots q' q hD this
      rw [hDq] at this
      cases this
  · refine ok_mono (fun _ h => h) (fun k hk => (agr k fun hv => ?_).2) _ (I.t0ok d)
    have := hv.1
    have := hk.1
    omega
  · by_cases e : j = q
    · subst e
      refine ok_mono (fun k hk => ?_) (fun _ _ => rfl) _ ov
      obtain ⟨k1, k2⟩ := (hN k).1 hk
      have hno : ∀ m, m < ops.size → m ≠ j → (before (masks [] ops.toList) m j = false) → ¬ inIv L m k := by
        intro m hm hne hbf hv
        have hom := Array.getElem?_eq_getElem hm
        have := bar_before hbar hom (iv_heap G hom hv).1 hne
        split at this
        · rw [hbf] at this; cases this
        · have := G.mono (i := j + 1) (j := m) (by omega) (by omega)
          have := hv.1
          omega
      refine ⟨⟨k1, k2, fun m a1 a2 a3 => hno m (by omega) (by omega) a3⟩, fun m hm hD' => ?_⟩
      obtain ⟨e1, e2⟩ := upD_false hD'
      refine hno m hm e1 ?_
      cases h : before (masks [] ops.toList) m j with
      | false => rfl
      | true => rw [hb m h] at e2; cases e2
    · unfold upD at hD
      rw [if_neg e] at hD
      exact ok_mono (fun k hk => ⟨hk.1, Av_up hk.2⟩) (fun k hk => (agr k (avi k hk.2)).2) _ (I.vok j hj hD)
  · have g1 := get1 k ob (.inl ⟨k1, k2⟩) g
    exact (S.rel.ent k ob g1).move (fun x hx => by rw [hpq]; exact (hN x).1 hx) (fun _ _ => ⟨rfl, rfl⟩) ⟨rfl, rfl⟩ rfl
  · exact absurd k4 (later j k (by omega) (by omega) k3)
  · exact S.rel.own k ob (get1 k ob k1 g) (by rw [c1]; exact hk)
  · exact S.rel.inj k k' o1 o2 (get1 k o1 k1 g1) (get1 k' o2 k2 g2) he

/- how many are undone -/
def undone (ops : Array Oper) (listed : Array Bool) : Nat := ((List.range ops.size).filter fun i => !listed.getD i false).length

theorem getD_set {listed : Array Bool} {i : Nat} (hi : i < listed.size) (j : Nat) : (listed.setIfInBounds i true).getD j false = upD (fun j => listed.getD j false) i j := by
  unfold upD
  simp only [Array.getD_eq_getD_getElem?]
  by_cases e : j = i
  · subst e
    rw [if_pos rfl, Array.getElem?_setIfInBounds_self_of_lt hi]
    rfl
  · rw [if_neg e, Array.getElem?_setIfInBounds_ne (fun h => e h.symm)]

theorem filter_lt {α : Type} (p p' : α → Bool) : ∀ (l : List α), (∀ x, p' x = true → p x = true) → (∃ x ∈ l, p x = true ∧ p' x = false) → (l.filter p').length < (l.filter p).length := by
  intro l
  induction l with
  | nil => rintro _ ⟨x, hx, _⟩; cases hx
  | cons y r ih =>
    intro h ⟨x, hx, h1, h2⟩
    have hle : (r.filter p').length ≤ (r.filter p).length := by
      clear ih h1 h2 hx
      induction r with
      | nil => simp
      | cons z r ih => 
        by_cases hz : p' z = true
        · rw [List.filter_cons_of_pos hz, List.filter_cons_of_pos (h z hz)]; simpa using ih
        · rw [List.filter_cons_of_neg hz]
          by_cases hz2 : p z = true
          · rw [List.filter_cons_of_pos hz2]; simp; omega
          · rw [List.filter_cons_of_neg hz2]; exact ih
    rcases List.mem_cons.1 hx with e | e
    · subst e
      rw [List.filter_cons_of_pos h1, List.filter_cons_of_neg (by rw [h2]; simp)]
      simp
      omega
    · have := ih h ⟨x, e, h1, h2⟩
      by_cases hz : p' y = true
      · rw [List.filter_cons_of_pos hz, List.filter_cons_of_pos (h y hz)]; simpa using this
      · rw [List.filter_cons_of_neg hz]
        by_cases hz2 : p y = true
        · rw [List.filter_cons_of_pos hz2]; simp; omega
        · rw [List.filter_cons_of_neg hz2]; exact this

theorem ready_all (hs : slotsOk ops (masks [] ops.toList) = true) {listed : Array Bool} (hsz : listed.size = ops.size) (h : Region.ready .any ops listed = []) : ∀ i, i < ops.size → listed.getD i false = true := by
  intro i
  induction i using Nat.strongRecOn with
  | _ i ih =>
    intro hi
    cases hD : listed.getD i false with
    | true => rfl
    | false =>
      have hm : i ∈ Region.ready .any ops listed := by
        refine mem_ready.2 ⟨?_, _, Array.getElem?_eq_getElem hi, fun e he hb => ?_⟩
        · rw [Array.getD_eq_getD_getElem?] at hD ⊢
          rw [Array.getElem?_eq_getElem (by omega)] at hD ⊢
          exact hD
        · have := slots_edges hs (Array.getElem?_eq_getElem hi) he hb
          exact ih e.on this (by omega)
      rw [h] at hm
      cases hm

theorem region_any (G : Logged P call nt ops L W H0) (hb0 : ∀ p ∈ H0, p.2 ≤ (L.h 0).next) (φ0 : Nat → Nat × Nat) (κ0 : Nat → Nat) (h0 : ∀ d, nt ≤ d → (L.t 0).get d = none) {Q : Exit → Act → World → Prop}
    (hQ : ∀ φ κ a w D, SInv ds nt ops L W H0 D ops.size w0 φ κ a w → Agree (lo L 0) (lo L ops.size) φ0 κ0 φ κ → (∀ i, i < ops.size → D i = true) → Q .normal a w) :
    ∀ (fuel : Nat) (listed : Array Bool) (a : Act) (w : World), listed.size = ops.size → undone ops listed ≤ fuel → (∃ q φ κ, SInv ds nt ops L W H0 (fun j => listed.getD j false) q w0 φ κ a w ∧ Agree (lo L 0) (lo L ops.size) φ0 κ0 φ κ) → wpAnyIn (fen rd) 0 P .any ops Q fuel listed a w := by
  have fin : ∀ (listed : Array Bool) (a : Act) (w : World), (∃ q φ κ, SInv ds nt ops L W H0 (fun j => listed.getD j false) q w0 φ κ a w ∧ Agree (lo L 0) (lo L ops.size) φ0 κ0 φ κ) → (∀ i, i < ops.size → listed.getD i false = true) → Q .normal a w := by
    rintro listed a w ⟨q, φ, κ, I, ag⟩ hall
    have hq : q = ops.size := by
      rcases Nat.lt_or_ge q ops.size with h | h
      · have := (I.qbar h).2
        rw [hall q h] at this
        cases this
      · have := I.qle; omega
    subst hq
    exact hQ φ κ a w _ I ag hall
  intro fuel
  induction fuel with
  | zero =>
    intro listed a w hsz hu hI
    have hall : ∀ i, i < ops.size → listed.getD i false = true := by
      intro i hi
      cases h : listed.getD i false with
      | true => rfl
      | false =>
        have : i ∈ (List.range ops.size).filter fun i => !listed.getD i false := List.mem_filter.2 ⟨List.mem_range.2 hi, by rw [h]; rfl⟩
        unfold undone at hu
        have hpos := List.length_pos_of_mem this
        omega
    refine ⟨?_, fin listed a w hI hall⟩
    refine List.eq_nil_iff_forall_not_mem.2 fun i hi => ?_
    obtain ⟨h1, o, h2, _⟩ := mem_ready.1 hi
    have hlt := (Array.getElem?_eq_some_iff.1 h2).1
    have h3 := hall i hlt
    rw [Array.getD_eq_getD_getElem?, Array.getElem?_eq_getElem (by omega)] at h1 h3
    simp only [Option.getD_some] at h1 h3
    rw [h1] at h3
    cases h3
  | succ fuel ih =>
    intro listed a w hsz hu hI
    refine ⟨fun hr => fin listed a w hI (ready_all G.slots hsz hr), fun i hi => ?_⟩
    obtain ⟨hl, o, ho, hr⟩ := mem_ready.1 hi
    have hlt := (Array.getElem?_eq_some_iff.1 ho).1
    have hD : listed.getD i false = false := by
      rw [Array.getD_eq_getD_getElem?, Array.getElem?_eq_getElem (by omega)] at hl ⊢
      exact hl
    have hfun : (fun j => (listed.setIfInBounds i true).getD j false) = upD (fun j => listed.getD j false) i := funext fun j => getD_set (by omega) j
    have hund : undone ops (listed.setIfInBounds i true) ≤ fuel := by
      have : undone ops (listed.setIfInBounds i true) < undone ops listed := by
        unfold undone
        refine filter_lt _ _ _ (fun x hx => ?_) ⟨i, List.mem_range.2 hlt, by rw [hD]; rfl, ?_⟩
        · rw [getD_set (by omega)] at hx
          simp only [Bool.not_eq_true'] at hx ⊢
          exact (upD_false hx).2
        · rw [getD_set (by omega), upD_self]; rfl
      omega
    have next : ∀ (a' : Act) (w' : World), (∃ q φ κ, SInv ds nt ops L W H0 (upD (fun j => listed.getD j false) i) q w0 φ κ a' w' ∧ Agree (lo L 0) (lo L ops.size) φ0 κ0 φ κ) → wpAnyIn (fen rd) 0 P .any ops Q fuel (listed.setIfInBounds i true) a' w' := by
      intro a' w' h
      exact ih _ a' w' (by simpa using hsz) hund (by rw [hfun]; exact h)
    obtain ⟨q, φ, κ, I, ag⟩ := hI
    have agree : ∀ (φ' : Nat → Nat × Nat) (κ' : Nat → Nat), Agree (lo L i) (lo L (i + 1)) φ κ φ' κ' → Agree (lo L 0) (lo L ops.size) φ0 κ0 φ' κ' := by
      intro φ' κ' h k hk
      have h1 := ag k hk
      have m1 := (G.const i (by omega)).2.2
      have m2 := G.mono (i := i + 1) (j := ops.size) (by omega) (by omega)
      have h2 := h k (by omega)
      exact ⟨h2.1.trans h1.1, h2.2.trans h1.2⟩
    have hb : ∀ j, before (masks [] ops.toList) j i = true → (fun j => listed.getD j false) j = true := by
      intro j hj
      obtain ⟨o', ho', e, he, hbi, h⟩ := (before_iff G.slots).1 hj
      obtain rfl := Option.some.inj (ho.symm.trans ho')
      have hd := hr e he hbi
      rcases h with h | h
      · rw [← h]; exact hd
      · exact I.closed.before G.slots e.on j hd h
    unfold wpOpIn
    simp only [ho]
    rw [sinv_want G h0 I ho hD hb]
    cases G.at_ i o ho with
    | skip hw hv ht hh hp =>
      rw [hw]
      simp only [Bool.false_eq_true, if_false]
      have hnb : ¬ effBar ops L i := by
        rintro ⟨o', ho', hw', _⟩
        obtain rfl := Option.some.inj (ho.symm.trans ho')
        rw [hw] at hw'
        cases hw'
      have hq : i ≠ q := fun e => by
        subst e
        exact hnb (I.qbar hlt).1
      have := sinv_quiet G I ho hD hr hq (Below.refl _ _) (fun k hk => by have := (iv_heap G ho hk).2; rw [hw] at this; cases this) (by rw [hv]; exact ok_undef)
      rw [hv, ren_undef] at this
      exact ⟨fun f _ => fen_fn rd f, next _ _ ⟨q, φ, κ, this, ag⟩⟩
    | bar hw hbo hs ht hp =>
      rw [hw]
      simp only [if_true]
      have hbar : effBar ops L i := ⟨o, ho, hw, hbo⟩
      have hiq := bar_is I hlt hbar hD hb
      subst hiq
      have R := bar_rel G hb0 I hlt hb
      obtain ⟨_, c2, _⟩ := G.const i (by omega)
      refine aStep_sound G.names G.ok R (sinv_env G h0 I ho hD hb (fun k h1 _ => (N_iff k).2 ⟨h1.1, by rw [c2]; exact h1.2.1⟩)) hs fun φ' κ' w' S ov => ?_
      obtain ⟨q', I'⟩ := sinv_bar G I ho hlt hr hb S ov
      exact next _ _ ⟨q', φ', κ', I', agree _ _ S.agr⟩
    | read hw hbo h' hs ht hh hp =>
      rw [hw]
      simp only [if_true]
      have hnb : ¬ effBar ops L i := by
        rintro ⟨o', ho', _, hb'⟩
        obtain rfl := Option.some.inj (ho.symm.trans ho')
        rw [hbo] at hb'
        cases hb'
      cases hpu : isPure o.op with
      | true =>
        have hq : i ≠ q := fun e => by
          subst e
          exact hnb (I.qbar hlt).1
        obtain ⟨e1, e2⟩ := aStep_pure hpu hs
        -- an empty memory does as well
        obtain ⟨_, c2, c3⟩ := G.const i (by omega)
        let g : AH := ⟨.leaf, lo L i, 0, (L.hin (masks [] ops.toList) i).hid ++ ((List.range i).filter fun m => !listed.getD m false).map fun m => (lo L m, lo L (m + 1))⟩
        have hgN : ∀ k, g.N k ↔ VisTo ops L H0 (lo L i) i k ∧ ∀ m, m < i → listed.getD m false = false → ¬ inIv L m k := by
          intro k
          rw [N_iff, ← G.hin_sees (by omega) (lo L i) k, sees_iff]
          unfold outOk
          constructor
          · rintro ⟨h1, h2⟩
            refine ⟨⟨h1, fun p hp => h2 p (List.mem_append_left _ hp)⟩, fun m hm hd => ?_⟩
            exact h2 (lo L m, lo L (m + 1)) (List.mem_append_right _ (List.mem_map.2 ⟨m, List.mem_filter.2 ⟨List.mem_range.2 hm, by rw [hd]; rfl⟩, rfl⟩))
          · rintro ⟨⟨h1, h2⟩, h3⟩
            refine ⟨h1, fun p hp => ?_⟩
            rcases List.mem_append.1 hp with hp | hp
            · exact h2 p hp
            · obtain ⟨m, hm, rfl⟩ := List.mem_map.1 hp
              obtain ⟨hm1, hm2⟩ := List.mem_filter.1 hm
              exact h3 m (List.mem_range.1 hm1) (by simpa using hm2)
        have Rg : Rel w φ κ g w := by
          refine ⟨Below.refl _ _, fun p hp => ?_, Nat.zero_le _, fun k ob hg => ?_, fun k ob hg => ?_, fun k k' o1 o2 hg => ?_⟩
          · show p.2 ≤ lo L i
            rcases List.mem_append.1 hp with hp | hp
            · rcases List.mem_append.1 hp with hp | hp
              · rw [c2] at hp
                exact Nat.le_trans (hb0 p hp) c3
              · obtain ⟨x, hx, rfl⟩ := List.mem_map.1 hp
                obtain ⟨hx1, _⟩ := List.mem_filter.1 hx
                obtain ⟨m, hm, rfl⟩ := List.mem_map.1 hx1
                have hm' := List.mem_range'_1.1 (List.mem_reverse.1 hm)
                exact G.mono (i := m + 1) (j := i) (by omega) (by omega)
            · obtain ⟨m, hm, rfl⟩ := List.mem_map.1 hp
              have := List.mem_range.1 (List.mem_filter.1 hm).1
              exact G.mono (i := m + 1) (j := i) (by omega) (by omega)
          all_goals (have := get_tr hg; cases this)
        have hsg := e2 g
        refine aStep_sound G.names G.ok Rg (sinv_env G h0 I ho hD hb (fun k h1 h2 => (hgN k).2 ⟨h1, fun m hm hd => h2 m (by omega) hd⟩)) hsg fun φ' κ' w' S ov => ?_
        have hno : ∀ k, ¬ inIv L i k := fun k hk => by have := (iv_heap G ho hk).1; rw [hpu] at this; cases this
        obtain rfl : φ' = φ := funext fun k => (S.agr k (by omega)).1
        obtain rfl : κ' = κ := funext fun k => (S.agr k (by omega)).2
        refine next _ _ ⟨q, _, _, sinv_quiet G I ho hD hr hq S.rel.below hno (ok_mono (fun k hk => ?_) (fun _ _ => rfl) _ ov), ag⟩
        obtain ⟨k1, k2⟩ := (hgN k).1 hk
        have hlo := G.mono (i := i) (j := i + 1) (by omega) (by omega)
        refine ⟨⟨Nat.lt_of_lt_of_le k1.1 hlo, k1.2⟩, fun m hm hd hv => ?_⟩
        obtain ⟨e1, e2⟩ := upD_false hd
        rcases Nat.lt_or_ge m i with h | h
        · exact k2 m h e2 hv
        · have := G.mono (i := i + 1) (j := m) (by omega) (by omega)
          have := hv.1
          have := k1.1
          omega
      | false =>
        have R := read_rel G hb0 I ho hD hpu hnb hb
        refine aStep_sound G.names G.ok R (sinv_env G h0 I ho hD hb (fun k h1 _ => (G.hin_sees (by omega) (lo L i) k).2 h1)) hs fun φ' κ' w' S ov => ?_
        have hnx : h'.next = lo L (i + 1) := by unfold lo; rw [hh]
        have sagr := S.agr
        rw [hnx] at sagr
        exact next _ _ ⟨q, φ', κ', sinv_read G hb0 I ho hD hr hpu hnb hb hh S ov, agree _ _ sagr⟩
end
end Go.Ev
