/-
  Walks by names: appending to a row without room; what stands behind a list; a slice without room behind it.
-/
import Derived.Test.YthoigkgjidcklaaMh
set_option linter.unusedSimpArgs false
set_option linter.unusedVariables false
namespace Go.Vm
open Go Go.RowKit
section
variable {wl : Nat} {hid : List (Nat × Nat)} {L T : List (Option AObj)} {k sz sz' bytes n c ne c2 k2 o2 o : Nat} {K : Value → AH → Prop} {h : AH}
theorem apd_get (i : Nat) : (L ++ T)[L.length + i]? = T[i]? := by rw [List.getElem?_append_right (by omega)]; congr 1; omega
theorem apd_get0 : (L ++ T)[L.length]? = T[0]? := by rw [List.getElem?_append_right (by omega)]; congr 1; omega
theorem apd_set (i : Nat) (x : Option AObj) : (L ++ T).set (L.length + i) x = L ++ T.set i x := by rw [List.set_append_right _ _ (by omega)]; congr 2; omega
theorem apd_set0 (x : Option AObj) : (L ++ T).set L.length x = L ++ T.set 0 x := by rw [List.set_append_right _ _ (by omega)]; congr 2; omega
theorem apd_low (x : Option AObj) (h : L[k]? = some x) : (L ++ T)[k]? = some x := by rw [List.getElem?_append_left (List.getElem?_eq_some_iff.1 h).1]; exact h
/-- Appending to a row without room for it. -/
theorem appK_g {old : List Value} {op : Bool} (hf : freeOf hid k = true) (hL : (L[k]?).join = some (AObj.cells ⟨old, sz', op⟩)) (hl : old.length = n * sz) (hc : c < n + ne) (hc2 : c < openB) (hne' : ne ≠ 0) :
    appK (Hq wl hid L) sz bytes (.slice (some ⟨k, 0, none⟩) n c) (.slice (some ⟨k2, o2, none⟩) ne c2) K =
      (match cellsAt (Hq wl hid L) k2 o2 (ne * sz) with
       | some new => chk ((2 * (n + ne) + 1024) * bytes ≤ 281474976710656) (K (.slice (some ⟨L.length, 0, none⟩) (n + ne) openB) (Hq wl hid (L ++ [some (AObj.cells ⟨old ++ new, sz, true⟩)])))
       | none => False) := by
  have hg : (Hq wl hid L).get k = some (.cells ⟨old, sz', op⟩) := (free_get hf).trans hL
  have hself : sCells (Hq wl hid L) sz (.slice (some ⟨k, 0, none⟩) n c) = some old := by
    unfold sCells
    by_cases hn : n = 0
    · subst hn
      rw [Nat.zero_mul] at hl
      rw [List.eq_nil_of_length_eq_zero hl]
      exact if_pos rfl
    · simp only [if_neg hn, cellsAt, hg]
      rw [if_pos (by omega)]
      simp [← hl]
  have hsc : sCells (Hq wl hid L) sz (.slice (some ⟨k2, o2, none⟩) ne c2) = cellsAt (Hq wl hid L) k2 o2 (ne * sz) := if_neg hne'
  unfold appK
  rw [hsc]
  cases hx : cellsAt (Hq wl hid L) k2 o2 (ne * sz) with
  | none => rfl
  | some new =>
    simp only [slen_slice]
    unfold appN
    have h1 : ¬ (n + ne ≤ c) := by omega
    simp only [hc2, if_true, h1, if_false, hself, Hq_new, Hq_next]
    exact propext ⟨fun h => h.2 hne', fun h => ⟨fun e => absurd e hne', fun _ => h⟩⟩
/-- Appending nothing. -/
theorem appK_z (hc : c < openB) (hn : n ≤ c) : appK h sz bytes (.slice (some ⟨k, o, none⟩) n c) (.slice (some ⟨k2, o2, none⟩) 0 c2) K = K (.slice (some ⟨k, o, none⟩) n c) h := by
  unfold appK
  have e : sCells h sz (.slice (some ⟨k2, o2, none⟩) 0 c2) = some [] := by unfold sCells; exact if_pos rfl
  rw [e]
  simp only [slen_slice]
  exact propext ⟨fun h => (h.1 trivial).2, fun h => ⟨fun _ => ⟨.inl ⟨hc, hn⟩, h⟩, fun e => absurd rfl e⟩⟩
end
/-- A contract in a memory holds in one that bears more, names being the same. -/
theorem frOK_id {wl m : Nat} {L : List (Option AObj)} {ψ : Nat → Nat × Nat × Bool} : ∀ {i : Nat} {X : List (Option AObj)}, (∀ k x, X[k]? = some x → (Hp wl L).sees (ψ (i + k)).1 = true ∧ ∀ o, x = some o → frAt (Hp wl L) ψ m (i + k) o) → frOK (Hp wl L) ψ m i X
  | _, [], _ => trivial
  | i, x :: r, h => ⟨by simpa using h 0 x rfl, frOK_id fun k y hk => by
      have := h (k + 1) y hk
      rw [show i + (k + 1) = i + 1 + k by omega] at this
      exact this⟩

/-- A contract whose memory is tidied: of the names made those of σL stay. -/
theorem Fc.gc {P : Program} {f : Nat} {args : List Value} {h h1 : AH} {os : List AObj} {v v1 : Value} (F : Fc P f args h v1 h1) (hid : h.hid = []) (hw : h.wlim = h.next) (σL : List Nat) (ξL : List (Nat × Xi))
    (q3 : σL.length = os.length) (q4 : σL.Nodup) (q5 : ∀ s ∈ σL, h.next ≤ s) (q6 : ∀ p ∈ ξL, h.next ≤ p.1 ∧ p.2.ok)
    (q7 : v1 = mv (fun k => if k < h.next then k else σL.getD (k - h.next) 0) (xiL ξL) v) (q8 : okM (xiL ξL) (h.next + os.length) v)
    (q9 : ∀ i o2, os[i]? = some o2 → (xiL ξL (h.next + i) = .nil ∧ nilO o2) ∨ (xiL ξL (h.next + i) ≠ .nil ∧ ∃ o, h1.get (σL.getD i 0) = some o ∧ OM (fun k => if k < h.next then k else σL.getD (k - h.next) 0) (xiL ξL) (h.next + os.length) (h.next + i) o o2)) : Fc P f args h v (h.news os) := by
  refine ⟨fun hw => news_grow hw _, F.body, fun w0 φ κ w R ha => ?_⟩
  have R0 : Rel w φ κ h w := ⟨Below.refl _ _, R.hid, R.wl, R.ent, fun k o g _ hk => (by have := sees_lt (get_sees g); omega), R.inj⟩
  refine (F.run w φ κ w R0 ha).mono ?_
  rintro e w1 ⟨φ1, κ1, rfl, S, r2⟩
  let σ : Nat → Nat := fun k => if k < h.next then k else σL.getD (k - h.next) 0
  have hroom : ∀ k, (xiL ξL k).ok := xiL_ok fun p hp => (q6 p hp).2
  have hlow : ∀ k, k < h.next → xiL ξL k = .same := fun k hk => xiL_low (fun p hp => (q6 p hp).1) hk
  let φ3 : Nat → Nat × Nat := fun k => if k < h.next + os.length then phi2 φ1 σ (xiL ξL) k else φ k
  let κ3 : Nat → Nat := fun k => if k < h.next + os.length then kap2 κ1 σ (xiL ξL) k else κ k
  have hnx : (h.news os).next = h.next + os.length := news_next _ _
  have hN : ∀ k, k < h.next + os.length → (h.news os).N k := fun k hk => by
    show AH.sees _ _ = true
    unfold AH.sees
    rw [news_hid, hid, hnx]
    simpa using hk
  have hag : ∀ k, (h.news os).N k → φ3 k = phi2 φ1 σ (xiL ξL) k ∧ κ3 k = kap2 κ1 σ (xiL ξL) k := fun k hk => by
    have := sees_lt hk
    rw [hnx] at this
    exact ⟨if_pos this, if_pos this⟩
  have hold : ∀ k, k < h.next → φ3 k = φ k ∧ κ3 k = κ k := by
    intro k hk
    obtain ⟨a1, a2⟩ := S.agr k (by omega)
    have hs : σ k = k := if_pos hk
    have e1 : φ3 k = phi2 φ1 σ (xiL ξL) k := if_pos (by omega)
    have e2 : κ3 k = kap2 κ1 σ (xiL ξL) k := if_pos (by omega)
    rw [e1, e2]
    rw [phi2_eq (by rw [hlow k hk]; simp)]
    unfold kap2
    rw [hs, hlow k hk]
    exact ⟨a1, a2⟩
  have hb := S.rel.below
  have hwl1 : h1.wlim = h.next := S.wlim.trans hw
  have hv : okV (h.news os).N (kap2 κ1 σ (xiL ξL)) v := ok_mv hroom hN v (by rw [← q7]; exact r2) q8
  -- an object that is new
  have new : ∀ k o, (h.news os).get k = some o → ¬ k < h.next → entOK (phi2 φ1 σ (xiL ξL)) (kap2 κ1 σ (xiL ξL)) (h.news os).N w1 k o ∧ (rl κ3 k o → ∃ o1, phi2 φ1 σ (xiL ξL) k = φ1 (σ k) ∧ h1.get (σ k) = some o1 ∧ rl κ1 (σ k) o1 ∧ h.next ≤ σ k ∧ k - h.next < σL.length ∧ σ k = σL.getD (k - h.next) 0) := by
    intro k o g hk
    have hs' := get_sees g
    rw [news_get R.hid, if_neg hk] at g
    have hlt := (List.getElem?_eq_some_iff.1 g).1
    have hs : σ k = σL.getD (k - h.next) 0 := if_neg hk
    have q := q9 _ _ g
    rw [show h.next + (k - h.next) = k from by omega] at q
    have e2 : κ3 k = kap2 κ1 σ (xiL ξL) k := (hag k hs').2
    rcases q with ⟨hx, m1⟩ | ⟨hx, o1, g1, m1⟩
    · have hz : kap2 κ1 σ (xiL ξL) k = 0 := by unfold kap2; rw [hx]
      exact ⟨m1.ent hz, fun hr => absurd hr (m1.rl (by rw [e2]; exact hz))⟩
    · have E1 := S.rel.ent _ _ g1
      rw [← hs] at E1 g1
      refine ⟨m1.ent hroom hN hx E1, fun hr => ⟨o1, phi2_eq hx, g1, m1.rl (rl_congr e2 hr), ?_, by omega, hs⟩⟩
      rw [hs, List.getD_eq_getElem?_getD, List.getElem?_eq_getElem (by omega)]
      exact q5 _ (List.getElem_mem _)
  refine ⟨φ3, κ3, ?_, ⟨fun k hk => ?_, ⟨R.below.trans (hb.mono R.below.size), fun p hp => (by rw [news_hid, hid] at hp; cases hp), by rw [news_wlim, hnx]; omega, fun k o g => ?_, fun k o g hr hk => ?_, fun k k' o o' g g' hr hr' hk e => ?_⟩, by omega, news_hid _ _, news_wlim _ _, fun k hk => news_tr _ _ _ (by omega)⟩, ok_mono (fun _ x => x) (fun k hk => (hag k hk).2) v hv⟩
  · rw [q7, ren_mv hroom v q8, ren_congr hag v hv]
  · rw [hnx] at hk
    by_cases h1 : k < h.next
    · exact hold k h1
    · exact ⟨if_neg (by omega), if_neg (by omega)⟩
  · by_cases h1 : k < h.next
    · rw [news_get R.hid, if_pos h1] at g
      have E := R.ent k o g
      exact E.move (fun j s => news_N _ s) (fun j s => hold j (sees_lt s)) (hold k h1) (fun hr => hb.block _ (E.lt hr))
    · obtain ⟨E, _⟩ := new k o g h1
      exact E.move (fun _ x => x) hag (hag k (get_sees g)) fun _ => rfl
  · rw [news_wlim, hw] at hk
    obtain ⟨o1, p1, g1, r1, g2, _⟩ := (new k o g (by omega)).2 hr
    rw [(hag k (get_sees g)).1]
    have := S.rel.own _ _ g1 r1 (by rw [hwl1]; exact g2)
    rw [p1]
    have := R.below.size
    omega
  · rw [news_wlim, hw] at hk
    obtain ⟨o1, p1, g1, r1, g2, g3, g4⟩ := (new k o g (by omega)).2 hr
    rw [(hag k (get_sees g)).1] at e
    by_cases h1 : k' < h.next
    · rw [news_get R.hid, if_pos h1] at g'
      rw [(hold k' h1).1] at e
      have := S.rel.own _ _ g1 r1 (by rw [hwl1]; exact g2)
      have := (R.ent k' o' g').lt (rl_congr (hold k' h1).2 hr')
      rw [p1] at e
      omega
    · obtain ⟨o1', p1', g1', r1', g2', g3', g4'⟩ := (new k' o' g' h1).2 hr'
      rw [(hag k' (get_sees g')).1, p1, p1'] at e
      have := S.rel.inj _ _ _ _ g1 g1' r1 r1' (by rw [hwl1]; exact g2) e
      rw [g4, g4', List.getD_eq_getElem?_getD, List.getD_eq_getElem?_getD, List.getElem?_eq_getElem g3, List.getElem?_eq_getElem g3'] at this
      have := (List.getElem?_inj g3 q4).1 ((List.getElem?_eq_getElem g3).trans ((congrArg some this).trans (List.getElem?_eq_getElem g3').symm))
      omega
end Go.Vm
