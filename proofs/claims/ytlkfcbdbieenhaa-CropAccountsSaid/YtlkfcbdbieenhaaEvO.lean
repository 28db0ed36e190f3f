/-
  A machine for closed runs, fifteenth part: reading operations and those that part a region.
-/
import Derived.Test.YtlkfcbdbieenhaaEvN
namespace Go.Ev
open Go Go.RowKit

section
variable {P : Program} {call : CallF} {nt : Nat} {ops : Array Oper} {L : Log} {W : Nat} {H0 : List (Nat × Nat)}
variable {D : Nat → Bool} {q : Nat} {w0 w w' : World} {φ φ' : Nat → Nat × Nat} {κ κ' : Nat → Nat} {a : Act} {ds : List Deferred}

theorem N_iff {h : AH} (k : Nat) : h.N k ↔ k < h.next ∧ outOk h.hid k := sees_iff

theorem out_of_lt (hb0 : ∀ p ∈ H0, p.2 ≤ (L.h 0).next) {k : Nat} (h : lo L 0 ≤ k) : outOk H0 k := fun p hp hc => by have := hb0 p hp; have := hc.2; unfold lo at h; omega

/- where a reading operation stands -/
theorem read_place (G : Logged P call nt ops L W H0) (I : SInv ds nt ops L W H0 D q w0 φ κ a w) {i : Nat} {o : Oper} (ho : ops[i]? = some o) (hi : D i = false) (hp : isPure o.op = false) (hnb : ¬ effBar ops L i) (hb : ∀ j, before (masks [] ops.toList) j i = true → D j = true) :
    i < q ∧ L.p q ≤ i ∧ L.p i = L.p q ∧ ∀ m, i ≤ m → m ≤ q → ∀ k, k < lo L m → (L.h q).tr.get k = (L.h m).tr.get k := by
  have hlt : i < ops.size := (Array.getElem?_eq_some_iff.1 ho).1
  have h1 : i < q := by
    rcases Nat.lt_or_ge i q with h | h
    · exact h
    · have hqs : q < ops.size := by omega
      obtain ⟨hb1, hb2⟩ := I.qbar hqs
      have hne : i ≠ q := fun e => hnb (e ▸ hb1)
      have := bar_before hb1 ho hp hne
      rw [if_neg (by omega)] at this
      rw [hb q this] at hb2
      cases hb2
  have h2 : L.p q ≤ i := by
    rcases Nat.lt_or_ge i (L.p q) with h | h
    · rcases p_bar G q I.qle with h0 | ⟨h0, _⟩
      · omega
      · have hple := (G.p_le q I.qle).1
        have hDb := I.qlow _ (by omega) h0
        have hne : i ≠ L.p q - 1 := fun e => hnb (e ▸ h0)
        have := bar_before h0 ho hp hne
        rw [if_pos (by omega)] at this
        have := I.closed.before G.slots _ i hDb this
        rw [hi] at this
        cases this
    · exact h
  have hc := G.chunk (s := L.p q) I.qle (fun j a b => no_bar G I.qle a b)
  refine ⟨h1, h2, ((hc i h2 (by omega)).1).trans ((hc q (by omega) (Nat.le_refl _)).1).symm, fun m hm1 hm2 k hk => ?_⟩
  exact ((G.chunk (s := m) I.qle (fun j a b => no_bar G I.qle (by omega) b)) q hm2 (Nat.le_refl _)).2 k hk

/- what was undone cannot be seen -/
theorem vis_av (G : Logged P call nt ops L W H0) {i : Nat} {o : Oper} (ho : ops[i]? = some o) (hp : isPure o.op = false) (hb : ∀ j, before (masks [] ops.toList) j i = true → D j = true) {top k : Nat} (htop : top ≤ lo L (i + 1)) (hv : VisTo ops L H0 top i k) : Av ops L (upD D i) k := by
  intro m hm hD hiv
  have hlt : i < ops.size := (Array.getElem?_eq_some_iff.1 ho).1
  obtain ⟨hmi, hDm⟩ := upD_false hD
  have hmlt : m < i := by
    rcases Nat.lt_or_ge m i with h | h
    · exact h
    · have := G.mono (i := i + 1) (j := m) (by omega) (by omega)
      have := hiv.1
      have := hv.1
      omega
  have hnbm : before (masks [] ops.toList) m i = false := by
    cases h : before (masks [] ops.toList) m i with
    | false => rfl
    | true => rw [hb m h] at hDm; cases hDm
  rcases Nat.lt_or_ge m (L.p i) with h | h
  · rcases p_bar G i (by omega) with h0 | ⟨h0, _⟩
    · omega
    · have hple := (G.p_le i (by omega)).1
      have hom := Array.getElem?_eq_getElem hm
      have b1 := bar_before h0 ho hp (by omega)
      rw [if_neg (by omega)] at b1
      by_cases e : m = L.p i - 1
      · rw [← e, hnbm] at b1; cases b1
      · have b2 := bar_before h0 hom (iv_heap G hom hiv).1 e
        rw [if_pos (by omega)] at b2
        rw [before_trans G.slots _ _ _ b1 b2] at hnbm
        cases hnbm
  · exact hv.2.2 m h hmlt hnbm hiv

/- the memory that a reading operation sees -/
theorem read_rel (G : Logged P call nt ops L W H0) (hb0 : ∀ p ∈ H0, p.2 ≤ (L.h 0).next) (I : SInv ds nt ops L W H0 D q w0 φ κ a w) {i : Nat} {o : Oper} (ho : ops[i]? = some o) (hi : D i = false) (hp : isPure o.op = false) (hnb : ¬ effBar ops L i) (hb : ∀ j, before (masks [] ops.toList) j i = true → D j = true) :
    Rel w φ κ (L.hin (masks [] ops.toList) i) w := by
  have hlt : i < ops.size := (Array.getElem?_eq_some_iff.1 ho).1
  obtain ⟨h1, h2, h3, h4⟩ := read_place G I ho hi hp hnb hb
  have hN : ∀ k, (L.hin (masks [] ops.toList) i).N k ↔ VisTo ops L H0 (lo L i) i k := fun k => G.hin_sees (by omega) (lo L i) k
  have split : ∀ k ob, (L.hin (masks [] ops.toList) i).get k = some ob → VisTo ops L H0 (lo L i) i k ∧ (L.h q).tr.get k = some ob ∧ (k < lo L (L.p q) ∨ ∃ j, L.p q ≤ j ∧ j < i ∧ D j = true ∧ inIv L j k ∧ before (masks [] ops.toList) j i = true) := by
    intro k ob g
    have hv := (hN k).1 (get_sees g)
    refine ⟨hv, ?_, ?_⟩
    · rw [h4 i (Nat.le_refl _) (by omega) k hv.1]
      have := get_tr g
      exact this
    · rcases Nat.lt_or_ge k (lo L (L.p q)) with h | h
      · exact .inl h
      · obtain ⟨j, a1, a2, a3⟩ := inIv_find h2 h hv.1
        cases hbj : before (masks [] ops.toList) j i with
        | true => exact .inr ⟨j, a1, a2, hb j hbj, a3, hbj⟩
        | false => exact absurd a3 (hv.2.2 j (by omega) a2 hbj)
  have vb : ∀ k ob, (L.hin (masks [] ops.toList) i).get k = some ob → VB L H0 D q k := by
    intro k ob g
    obtain ⟨a1, a2, a3 | ⟨j, b1, b2, b3, b4, _⟩⟩ := split k ob g
    · exact .inl ⟨a3, a1.2.1⟩
    · exact .inr ⟨j, b1, by omega, b3, b4⟩
  refine ⟨Below.refl _ _, ?_, Nat.le_refl _, fun k ob g => ?_, fun k ob g hk => ?_, fun k k' o1 o2 g1 g2 => ?_⟩
  · intro p hp
    obtain ⟨_, c2, c3⟩ := G.const i (by omega)
    rcases List.mem_append.1 hp with hp | hp
    · rw [c2] at hp
      exact Nat.le_trans (hb0 p hp) c3
    · obtain ⟨x, hx, rfl⟩ := List.mem_map.1 hp
      obtain ⟨hx1, _⟩ := List.mem_filter.1 hx
      obtain ⟨m, hm, rfl⟩ := List.mem_map.1 hx1
      have hm' := List.mem_range'_1.1 (List.mem_reverse.1 hm)
      exact G.mono (i := m + 1) (j := i) (by omega) (by omega)
  · obtain ⟨a1, a2, a3 | ⟨j, b1, b2, b3, b4, b5⟩⟩ := split k ob g
    · refine (I.ent1 k ob a3 a1.2.1 a2).move (fun x hx => (hN x).2 ⟨Nat.lt_of_lt_of_le hx.1 (G.mono h2 (by omega)), hx.2, fun m c1 c2 _ hv => ?_⟩) (fun _ _ => ⟨rfl, rfl⟩) ⟨rfl, rfl⟩ rfl
      have := G.mono (i := L.p q) (j := m) (by omega) (by omega)
      have := hv.1
      have := hx.1
      omega
    · refine (I.ent2 j k ob b1 (by omega) b3 b4 a2).move (fun x hx => (hN x).2 ⟨Nat.lt_of_lt_of_le hx.1 (G.mono (by omega) (by omega)), hx.2.1, fun m c1 c2 c3 hv => ?_⟩) (fun _ _ => ⟨rfl, rfl⟩) ⟨rfl, rfl⟩ rfl
      have hmj : m ≤ j := by
        rcases Nat.lt_or_ge j m with h | h
        · have := G.mono (i := j + 1) (j := m) (by omega) (by omega)
          have := hv.1
          have := hx.1
          omega
        · exact h
      by_cases e : m = j
      · rw [e, b5] at c3; cases c3
      · cases hbm : before (masks [] ops.toList) m j with
        | true => rw [before_trans G.slots i j m b5 hbm] at c3; cases c3
        | false => exact hx.2.2 m (Nat.le_trans ((G.p_le i (by omega)).2 j (by omega)) c1) (by omega) hbm hv
  · have := ((hN k).1 (get_sees g)).1
    have hk' : lo L i ≤ k := hk
    omega
  · exact I.inj k k' o1 o2 (vb k o1 g1) (vb k' o2 g2) (split k o1 g1).2.1 (split k' o2 g2).2.1

/- behind a reading operation -/
theorem sinv_read (G : Logged P call nt ops L W H0) (hb0 : ∀ p ∈ H0, p.2 ≤ (L.h 0).next) (I : SInv ds nt ops L W H0 D q w0 φ κ a w) {i : Nat} {o : Oper} (ho : ops[i]? = some o) (hi : D i = false) (hr : ∀ e ∈ o.after, Region.binds .any e = true → D e.on = true) (hp : isPure o.op = false) (hnb : ¬ effBar ops L i) (hb : ∀ j, before (masks [] ops.toList) j i = true → D j = true)
    {h' : AH} (hh : L.h (i + 1) = { h' with wlim := (L.h i).wlim, hid := (L.h i).hid }) (S : Step w φ κ (L.hin (masks [] ops.toList) i) φ' κ' h' w') (ov : okV h'.N κ' (L.v i)) :
    SInv ds nt ops L W H0 (upD D i) q w0 φ' κ' (a.put o.dst (ren φ' κ' (L.v i))) w' := by
  have hlt : i < ops.size := (Array.getElem?_eq_some_iff.1 ho).1
  obtain ⟨h1, h2, h3, h4⟩ := read_place G I ho hi hp hnb hb
  have hnext : h'.next = lo L (i + 1) := by unfold lo; rw [hh]
  have htr : ∀ k, h'.tr.get k = (L.h (i + 1)).tr.get k := fun k => by rw [hh]
  have hN' : ∀ k, h'.N k ↔ VisTo ops L H0 (lo L (i + 1)) i k := by
    intro k
    rw [← G.hin_sees (by omega) (lo L (i + 1)) k, N_iff, sees_iff, hnext, S.hid]
  have agr : ∀ k, ¬ inIv L i k → φ' k = φ k ∧ κ' k = κ k := fun k hk => S.agr k (by
    rw [hnext]
    exact hk)
  have hT : ∀ k, k < lo L (i + 1) → (L.h q).tr.get k = (L.h (i + 1)).tr.get k := h4 (i + 1) (by omega) (by omega)
  have hbelow : ∀ b, b < w.heap.size → w'.heap[b]? = w.heap[b]? := S.rel.below.block
  have avi : ∀ k, Av ops L D k → ¬ inIv L i k := fun k h => h i hlt hi
  have old1 : ∀ k, k < lo L (L.p q) → ¬ inIv L i k := fun k hk hv => by
    have := G.mono (i := L.p q) (j := i) h2 (by omega)
    have := hv.1
    omega
  have old2 : ∀ j k, L.p q ≤ j → j < q → D j = true → VisTo ops L H0 (lo L (j + 1)) j k → ¬ inIv L i k := by
    intro j k a1 a2 a3 hv hiv
    have hij : i ≤ j := by
      rcases Nat.lt_or_ge j i with h | h
      · have := G.mono (i := j + 1) (j := i) (by omega) (by omega)
        have := hiv.1
        have := hv.1
        omega
      · exact h
    have hne : i ≠ j := fun e => by rw [← e, hi] at a3; cases a3
    cases hbij : before (masks [] ops.toList) i j with
    | true =>
      have := I.closed.before G.slots j i a3 hbij
      rw [hi] at this
      cases this
    | false =>
      have hpj := (G.p_le q I.qle).2 j (by omega)
      exact hv.2.2 i (by omega) (by omega) hbij hiv
  have iv_iv : ∀ j k, j < ops.size → D j = true → inIv L j k → ¬ inIv L i k := fun j k hj hD hv hv' => by
    have := inIv_uniq G hj hlt hv hv'
    rw [this, hi] at hD
    cases hD
  have hsrc : ∀ d, ren φ' κ' (valOf ops L D d ops.size) = ren φ κ (valOf ops L D d ops.size) := by
    intro d
    rcases valOf_src (ops := ops) (L := L) (D := D) (d := d) ops.size with h | ⟨j, hj, hDj, _, h⟩
    · rw [h]
      exact ren_congr (fun k hk => agr k (fun hv => by
        have := (G.const i (by omega)).2.2
        have := hv.1
        have := hk.1
        omega)) _ (I.t0ok d)
    · rw [h]
      exact ren_congr (fun k hk => agr k (avi k hk.2)) _ (I.vok j hj hDj)
  have split : ∀ k ob, VB L H0 (upD D i) q k → (L.h q).tr.get k = some ob → (VB L H0 D q k ∧ ¬ inIv L i k ∧ (φ k).1 < w.heap.size) ∨ (inIv L i k ∧ h'.get k = some ob) := by
    rintro k ob (h | ⟨j, a1, a2, a3, a4⟩) g
    · exact .inl ⟨.inl h, old1 k h.1, (I.ent1 k ob h.1 h.2 g).lt⟩
    · by_cases e : j = i
      · subst e
        refine .inr ⟨a4, ?_⟩
        have hs : h'.sees k = true := (hN' k).2 ⟨a4.2, out_of_lt hb0 (Nat.le_trans (G.const j (by omega)).2.2 a4.1), fun m c1 c2 _ hv => by
          have := inIv_uniq G (by omega) hlt hv a4
          omega⟩
        unfold AH.get
        rw [if_pos hs, htr, ← hT k a4.2]
        exact g
      · unfold upD at a3
        rw [if_neg e] at a3
        exact .inl ⟨.inr ⟨j, a1, a2, a3, a4⟩, iv_iv j k (by have := I.qle; omega) a3 a4, (I.ent2 j k ob a1 a2 a3 a4 g).lt⟩
  refine ⟨I.qle, fun j hj hb' => upD_le (I.qlow j hj hb'), fun h => ⟨(I.qbar h).1, by unfold upD; rw [if_neg (by omega)]; exact (I.qbar h).2⟩, upD_closed I.closed ho hr, I.below.trans (S.rel.below.mono I.below.size), (put_defers _ _).trans I.defers, (put_size _ _).trans I.size, tm_put G I.closed ho hi I.size (fun d hd => by rw [hsrc]; exact I.tm d hd), fun d => ?_, fun j hj hD => ?_, fun k ob k1 k2 g => ?_, fun j k ob k1 k2 k3 k4 g => ?_, fun k ob k1 g hk => ?_, fun k k' o1 o2 k1 k2 g1 g2 he => ?_⟩
  · refine ok_mono (fun _ h => h) (fun k hk => (agr k fun hv => ?_).2) _ (I.t0ok d)
    have := (G.const i (by omega)).2.2
    have := hv.1
    have := hk.1
    omega
  · by_cases e : j = i
    · subst e
      exact ok_mono (fun k hk => ⟨(hN' k).1 hk, vis_av G ho hp hb (Nat.le_refl _) ((hN' k).1 hk)⟩) (fun _ _ => rfl) _ ov
    · unfold upD at hD
      rw [if_neg e] at hD
      exact ok_mono (fun k hk => ⟨hk.1, Av_up hk.2⟩) (fun k hk => (agr k (avi k hk.2)).2) _ (I.vok j hj hD)
  · have E := I.ent1 k ob k1 k2 g
    exact E.move (fun _ h => h) (fun x hx => agr x (old1 x hx.1)) (agr k (old1 k k1)) (hbelow _ E.lt)
  · by_cases e : j = i
    · subst e
      rcases split k ob (.inr ⟨j, k1, k2, k3, k4⟩) g with h | h
      · exact absurd k4 h.2.1
      · exact (S.rel.ent k ob h.2).move (fun x hx => (hN' x).1 hx) (fun _ _ => ⟨rfl, rfl⟩) ⟨rfl, rfl⟩ rfl
    · unfold upD at k3
      rw [if_neg e] at k3
      have E := I.ent2 j k ob k1 k2 k3 k4 g
      exact E.move (fun _ h => h) (fun x hx => agr x (old2 j x k1 k2 k3 hx)) (agr k (iv_iv j k (by have := I.qle; omega) k3 k4)) (hbelow _ E.lt)
  · rcases split k ob k1 g with h | h
    · rw [(agr k h.2.1).1]
      exact I.own k ob h.1 g hk
    · have := S.rel.own k ob h.2 (by rw [S.wlim]; exact h.1.1)
      have := I.below.size
      omega
  · rcases split k o1 k1 g1 with h | h
    · rcases split k' o2 k2 g2 with h' | h'
      · rw [(agr k h.2.1).1, (agr k' h'.2.1).1] at he
        exact I.inj k k' o1 o2 h.1 h'.1 g1 g2 he
      · have := S.rel.own k' o2 h'.2 (by rw [S.wlim]; exact h'.1.1)
        rw [(agr k h.2.1).1] at he
        have := h.2.2
        omega
    · rcases split k' o2 k2 g2 with h' | h'
      · have := S.rel.own k o1 h.2 (by rw [S.wlim]; exact h.1.1)
        rw [(agr k' h'.2.1).1] at he
        have := h'.2.2
        omega
      · exact S.rel.inj k k' o1 o2 h.2 h'.2 he
end
end Go.Ev
