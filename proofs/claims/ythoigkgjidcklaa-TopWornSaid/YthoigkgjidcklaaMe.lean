/-
  Walks on memory by names: the machine (Me).
-/
import Derived.Test.YthoigkgjidcklaaMd
import Derived.Test.YthoigkgjidcklaaMem
import Derived.Test.YthoigkgjidcklaaApp
import Derived.Test.YthoigkgjidcklaaOpn
set_option linter.unusedSimpArgs false
set_option linter.unusedVariables false
/- VnF: Walks on memory by names, sixth part: from contracts told of worlds to contracts told of names, and back at the entry. -/
namespace Go.Proofs.Ythoigkgjidcklaa
open Go.RowKit Go.Vm

section
variable {P : Program} {w0 w w' : World} {φ φ' : Nat → Nat × Nat} {κ κ' : Nat → Nat} {h h' : AH}

/-- What the names say stays, whatever is made beside them. -/
theorem _root_.Go.Vm.Rel.under (R : Rel w0 φ κ h w) (b : Below w.heap.size w w') : Step w0 φ κ h φ κ h w' :=
  ⟨fun _ _ => ⟨rfl, rfl⟩, ⟨R.below.trans (b.mono R.below.size), R.hid, R.wl, fun k o g => (R.ent k o g).move (fun _ s => s) (fun _ _ => ⟨rfl, rfl⟩) ⟨rfl, rfl⟩ fun hr => b.block _ ((R.ent k o g).lt hr), R.own, R.inj⟩, Nat.le_refl _, rfl, rfl, fun _ _ => rfl⟩

/-- A row that a call returns gets a name. -/
theorem _root_.Go.Vm.Rel.adopt (R : Rel w0 φ κ h w) (b : Below w.heap.size w w') {e : TypeId} {sz n cap : Nat} {A : Option Addr} {xs : List Value} (ho : w'.ownsRow w.heap.size e sz (.slice A n cap) n xs) (hno : noAddrL xs = true) :
    ∃ φ' κ', Step w0 φ κ h φ' κ' (h.new (.cells ⟨xs, sz, true⟩)) w' ∧ Vm.ren φ' κ' (.slice (some ⟨h.next, 0, none⟩) n openB) = .slice A n cap ∧ okV (h.new (.cells ⟨xs, sz, true⟩)).N κ' (.slice (some ⟨h.next, 0, none⟩) n openB) := by
  obtain ⟨hl, ho⟩ := ho
  have S := R.under b
  have hs := new_sees_self (h := h) (o := .cells ⟨xs, sz, true⟩) R.hid
  have hnoA : ∀ v ∈ xs, noAddr v = true := by
    intro v hv
    induction xs generalizing n with
    | nil => cases hv
    | cons y ys ih =>
      simp only [noAddrL, Bool.and_eq_true] at hno
      rcases List.mem_cons.1 hv with rfl | hv
      · exact hno.1
      · clear ho hl S hs
        have key : ∀ l : List Value, noAddrL l = true → ∀ v ∈ l, noAddr v = true := by
          intro l
          induction l with
          | nil => intro _ v hv; cases hv
          | cons a r ihr =>
            intro hh v hv
            simp only [noAddrL, Bool.and_eq_true] at hh
            rcases List.mem_cons.1 hv with rfl | hv
            · exact hh.1
            · exact ihr hh.2 v hv
        exact key ys hno.2 v hv
  rcases ho with ⟨hv, hn⟩ | ⟨g, cp, cur, hv, hg, hh, h1, h2, h3, h4⟩
  · injection hv with e1 e2 e3
    subst e1 e2 e3
    have hx : xs = [] := List.eq_nil_of_length_eq_zero (by rw [hl, Nat.zero_mul])
    subst hx
    have T := S.rel.name (o := .cells ⟨[], sz, true⟩) (p := (0, 0)) (K := 0) (fun hr => absurd (upd_same κ h.next 0) hr) (fun hr => absurd (upd_same κ h.next 0) hr) ⟨fun _ => rfl, fun hr => absurd (upd_same κ h.next 0) hr⟩
    refine ⟨_, _, ⟨T.agr, T.rel, T.next, T.hid, T.wlim, T.keep⟩, ?_, ?_⟩
    · simp only [Vm.ren, upd_same, if_true, dec_0]
    · simp only [okV, upd_same]
      exact ⟨hs, fun _ => ⟨trivial, fun h => absurd h (Nat.lt_irrefl _)⟩, fun _ => by rw [Nat.sub_self]; exact Nat.zero_le _⟩
  · injection hv with e1 e2 e3
    subst e1 e3
    have hne : ∀ k, h.sees k = true → k ≠ h.next := fun k s e => by have := sees_lt s; omega
    have T := S.rel.name (o := .cells ⟨xs, sz, true⟩) (p := (g, 0)) (K := cap + 1) (fun _ => Nat.le_trans R.below.size hg) (fun _ k o' gk hr e => by have := (R.ent k o' gk).lt hr; have e' : (φ k).1 = g := e; omega)
      ⟨fun hz => absurd hz (upd_ne0 _ _ _), fun _ => ⟨cur, e, (0, 0), by rw [upd_same]; exact hh, fun _ => rfl, by rw [upd_same, h3, hl]; simp only [Nat.zero_add]; exact Nat.mul_le_mul_right _ h1, fun j v hj => ?_, fun v hv => ok_noAddr _ _ _ (hnoA v hv), fun _ => by rw [upd_same, upd_same, h3]; simp⟩⟩
    · refine ⟨_, _, ⟨T.agr, T.rel, T.next, T.hid, T.wlim, T.keep⟩, ?_, ?_⟩
      · simp only [Vm.ren, upd_same]
        rw [if_neg (Nat.succ_ne_zero _), if_neg (Nat.lt_irrefl _), Nat.sub_self, Nat.sub_zero, Nat.add_sub_cancel]
      · simp only [okV, upd_same]
        exact ⟨hs, fun e => absurd e (Nat.succ_ne_zero _), fun _ => by omega⟩
    · rw [upd_same, ren_noAddr _ _ _ (hnoA v (List.mem_of_getElem? hj))]
      simp only [Nat.zero_add]
      have hj' : xs[j]? = some v := hj
      rw [← h4, List.getElem?_take] at hj'
      split at hj'
      · simpa using hj'
      · cases hj'

theorem _root_.Go.Vm.Fc.ofPlain {f : Nat} {args : List Value} {v : Value} (hv : noAddr v = true) (hb : ∃ fn c, P.funcs[f]? = some fn ∧ fn.body = some c)
    (H : ∀ w0 φ κ w, Rel w0 φ κ h w → (∀ x ∈ args, okV h.N κ x) → Calls P f (args.map (Vm.ren φ κ)).toArray w fun e w' => e = .returned v ∧ Below w.heap.size w w') : Fc P f args h v h :=
  ⟨fun _ => Grow.refl _, hb, fun w0 φ κ w R ha => (H w0 φ κ w R ha).mono fun e w' ⟨h1, h2⟩ => ⟨φ, κ, by rw [ren_noAddr _ _ _ hv]; exact h1, R.under h2, ok_noAddr _ _ _ hv⟩⟩

/-- What returns a row of its own, among other things. -/
theorem _root_.Go.Vm.Fc.ofOwn {f : Nat} {args : List Value} {mk : Value → Value} {e : TypeId} {sz n : Nat} {xs : List Value} (hno : noAddrL xs = true) (hmk : ∀ φ κ s, Vm.ren φ κ (mk s) = mk (Vm.ren φ κ s)) (hok : ∀ N κ s, okV N κ s → okV N κ (mk s)) (hb : ∃ fn c, P.funcs[f]? = some fn ∧ fn.body = some c)
    (H : ∀ w0 φ κ w, Rel w0 φ κ h w → (∀ x ∈ args, okV h.N κ x) → Calls P f (args.map (Vm.ren φ κ)).toArray w fun en w' => ∃ A cap, en = .returned (mk (.slice A n cap)) ∧ w'.ownsRow w.heap.size e sz (.slice A n cap) n xs ∧ Below w.heap.size w w') :
    Fc P f args h (mk (.slice (some ⟨h.next, 0, none⟩) n openB)) (h.new (.cells ⟨xs, sz, true⟩)) :=
  ⟨fun hw => grow_new hw _, hb, fun w0 φ κ w R ha => (H w0 φ κ w R ha).mono fun en w' ⟨A, cap, h1, h2, h3⟩ => by
    obtain ⟨φ', κ', S, e1, o1⟩ := R.adopt h3 h2 hno
    exact ⟨φ', κ', by rw [hmk, e1]; exact h1, S, hok _ _ _ o1⟩⟩

/-- A slice that stands in memory by names, told of the world. -/
theorem _root_.Go.Vm.Rel.sl {α : Type} {enc : α → List Value} {c : Nat} [F : FlatE enc c] (R : Rel w0 φ κ h w) {k n cp sz : Nat} {op : Bool} {xs : List α} (g : h.get k = some (.cells ⟨rows enc xs, sz, op⟩)) (hc : 0 < c) (o : okV h.N κ (.slice (some ⟨k, 0, none⟩) n cp)) (hn : xs.length = n) :
    ∃ A cap, Vm.ren φ κ (.slice (some ⟨k, 0, none⟩) n cp) = .slice A n cap ∧ Sl enc c w w.heap.size A n xs := by
  refine ⟨_, _, ren_slice o, hn, fun hx => ?_⟩
  have hz : κ k ≠ 0 := R.nz g (fun e => by
    have := congrArg List.length e
    simp only [rows_len, List.length_nil, Nat.mul_eq_zero] at this
    rcases this with h | h
    · exact hx (List.eq_nil_of_length_eq_zero h)
    · omega)
  refine ⟨(φ k).1, (φ k).2, by simp only [if_neg hz, Nat.add_zero], (R.ent k _ g).lt hz, fun i x hi j u hu => ?_⟩
  have hr : (rows enc xs)[i * c + j]? = some u := by
    have hi' := (List.getElem?_eq_some_iff.1 hi)
    have hj := (List.getElem?_eq_some_iff.1 hu).1
    rw [F.len] at hj
    have h9 : ((rows enc xs).drop (i * c))[j]? = some u := by
      rw [rows_drop, List.drop_eq_getElem_cons hi'.1, rows_cons, List.getElem?_append_left (by rw [F.len]; exact hj), hi'.2]
      exact hu
    rw [List.getElem?_drop] at h9
    exact h9
  have := (R.cells g hr).1
  have hno : noAddr u = true := by
    have h1 := F.no x
    have key : ∀ l : List Value, noAddrL l = true → ∀ v ∈ l, noAddr v = true := by
      intro l
      induction l with
      | nil => intro _ v hv; cases hv
      | cons a r ihr =>
        intro hh v hv
        simp only [noAddrL, Bool.and_eq_true] at hh
        rcases List.mem_cons.1 hv with rfl | hv
        · exact hh.1
        · exact ihr hh.2 v hv
    exact key _ h1 u (List.mem_of_getElem? hu)
  rw [ren_noAddr _ _ _ hno, ← Nat.add_assoc] at this
  exact this

/- the entry -/
/-- A slice argument as it stands in the world. -/
structure Row (w : World) (A : Option Addr) (n cap : Nat) (cs : List Value) : Prop where
  small : cap ≤ maxLen
  zero : cap = 0 → n = 0 ∧ cs = []
  row : cap ≠ 0 → ∃ b off c el fz, A = some ⟨b, off, none⟩ ∧ w.heap[b]? = some (.cells c el fz) ∧ off + cs.length ≤ c.size ∧ ∀ j u, cs[j]? = some u → c[off + j]? = some u

theorem Row.ent {A : Option Addr} {n cap : Nat} {cs : List Value} (r : Row w A n cap cs) (hno : ∀ v ∈ cs, noAddr v = true) :
    ∃ p K, ∀ (φ : Nat → Nat × Nat) (κ : Nat → Nat) (N : Nat → Prop) (k : Nat), φ k = p → κ k = K → N k → entOK φ κ N w k (.cells ⟨cs, 0, false⟩) ∧ Vm.ren φ κ (.slice (some ⟨k, 0, none⟩) n cap) = .slice A n cap ∧ okV N κ (.slice (some ⟨k, 0, none⟩) n cap) := by
  have hcap : cap < openB := by have := r.small; unfold maxLen at this; unfold openB; omega
  by_cases h0 : cap = 0
  · obtain ⟨rfl, rfl⟩ := r.zero h0
    subst h0
    obtain ⟨m, hm⟩ := dec_sur A
    refine ⟨(m, 0), 0, fun φ κ N k e1 e2 hk => ⟨⟨fun _ => rfl, fun hz => absurd e2 hz⟩, ?_, ?_⟩⟩
    · simp only [Vm.ren, e1, e2, if_true, hm]
    · simp only [okV, e2]
      exact ⟨hk, fun _ => ⟨trivial, fun _ => trivial⟩, fun h => by omega⟩
  · obtain ⟨b, off, c, el, fz, rfl, h1, h2, h3⟩ := r.row h0
    refine ⟨(b, off), 1, fun φ κ N k e1 e2 hk => ⟨⟨fun hz => (by rw [e2] at hz; cases hz), fun _ => ⟨c, el, fz, by rw [e1]; exact h1, fun hz => absurd rfl hz, by rw [e1]; exact h2, fun j v hj => ?_, fun v hv => ok_noAddr _ _ _ (hno v hv), fun hz => (by cases hz)⟩⟩, ?_, ?_⟩⟩
    · rw [e1, ren_noAddr _ _ _ (hno v (List.mem_of_getElem? hj))]
      exact h3 j v hj
    · simp only [Vm.ren, e1, e2, hcap, if_true, Nat.add_zero, if_neg (Nat.succ_ne_zero 0)]
    · simp only [okV, e2]
      exact ⟨hk, fun h => (by cases h), fun h => by omega⟩

theorem rel_entry {L : List (Option AObj)} (H : ∀ k o, (L[k]?).join = some o → entOK φ κ (Hp L.length L).N w k o) : Rel w φ κ (Hp L.length L) w :=
  ⟨Below.refl _ _, fun p hp => (by cases hp), Nat.le_refl _, fun k o g => H k o (by rw [← Hp_get (wl := L.length)]; exact g), fun k o g _ hk => absurd (sees_lt (get_sees g)) (Nat.not_lt.2 hk), fun k k' o o' g _ _ _ hk => absurd (sees_lt (get_sees g)) (Nat.not_lt.2 hk)⟩

theorem _root_.Go.Vm.Fc.enter {f : Nat} {args : List Value} {v : Value} (F : Fc P f args h v h') (R : Rel w φ κ h w) (ha : ∀ x ∈ args, okV h.N κ x) {as : Array Value} (e : (args.map (Vm.ren φ κ)).toArray = as) (hv : noAddr v = true) : Calls P f as w fun en w' => en = .returned v ∧ Below w.heap.size w w' := by
  subst e
  refine (F.run w φ κ w R ha).mono ?_
  rintro en w' ⟨φ', κ', rfl, S, _⟩
  exact ⟨by rw [ren_noAddr _ _ _ hv], S.rel.below⟩
end
end Go.Proofs.Ythoigkgjidcklaa

/- VnG: Walks on memory by names, seventh part: slice arguments of a row's law. -/
namespace Go.Proofs.Ythoigkgjidcklaa
open Go.RowKit Go.Vm Go.Deep Go.ChangeShapes Go.WideShapes

theorem cell_some {w : World} {p : Addr} {u : Value} (h : w.cell? p = some u) : ∃ c el fz, w.heap[p.block]? = some (.cells c el fz) ∧ p.spot = none ∧ c[p.off]? = some u := by
  unfold World.cell? at h
  split at h
  · rename_i c el fz hc
    split at h
    · cases h
    · rename_i hs
      exact ⟨c, el, fz, hc, by cases hp : p.spot with | none => rfl | some s => rw [hp] at hs; simp at hs, h⟩
  · cases h

theorem Row.of_trod {H : Type} {enc : TypeId × Value → H} {P : Program} {w : World} {base : Nat} {held : Bool} {α : Type} {ea : α → List Value} {c : Nat} [F : FlatE ea c] {kd : IntKind} (mk : List Int → α) (hmk : ∀ l : List Int, l.length = c → ea (mk l) = l.map (Value.int kd)) {f fuel : Nat} {t e : TypeId} {ls : List TypeId} {v : Value} {x : DataW H × List MemPlace}
    (ht : P.underlying t = some (.slice e)) (hle : leaves P f e = some ls) (hlen : ls.length = c) (hc : 0 < c) (hC : P.cellsOf e = c) (hls : ∀ lt ∈ ls, P.underlying lt = some (.int kd)) (h : DataW.trod enc P w base (fun _ => true) held fuel t [v] = some x) :
    ∃ (A : Option Addr) (n cap : Nat) (xs : List α), v = .slice A n cap ∧ xs.length = n ∧ Row w A n cap (rows ea xs) ∧ n ≤ cap ∧ ∀ y ∈ xs, ∃ l : List Int, l.length = c ∧ y = mk l ∧ ∀ z ∈ l, (Lit.int kd z).wf = true := by
  obtain ⟨A, n, cap, xs, hv, hs, h1, h2, h3⟩ := Sl.of_trod mk hmk ht hle hlen hc hC hls h
  refine ⟨A, n, cap, xs, hv, hs.1, ⟨h2, fun h0 => ?_, fun h0 => ?_⟩, h1, h3⟩
  · have hn : n = 0 := by omega
    have hx : xs = [] := List.eq_nil_of_length_eq_zero (by rw [hs.1, hn])
    exact ⟨hn, by rw [hx]; rfl⟩
  · have hA : ∃ a u, A = some a ∧ w.cell? a = some u := by
      rcases open_slice ht h with ⟨hcs, _⟩ | ⟨a, len, cap', m, n', D, Pl, hcs, hb, hl, hm, hmm, hx, hi⟩
      · simp only [List.cons.injEq, and_true] at hcs
        rw [hv] at hcs
        injection hcs with e1 e2 e3
        exact absurd e3 h0
      · simp only [List.cons.injEq, and_true] at hcs
        rw [hv] at hcs
        injection hcs with e1 e2 e3
        subst e1 e2 e3
        have hm0 : 0 < m := by rw [hmm]; simp; omega
        obtain ⟨cs', g1, _⟩ := hi 0 hm0
        obtain ⟨_, g3, g4⟩ := World.cells?_some g1
        rw [hC] at g3 g4
        have g5 := g4 0 hc
        rw [List.getElem?_eq_getElem (by omega), Nat.zero_mul] at g5
        have hadd : (a.add 0).add 0 = a := by
          obtain ⟨b, o, s⟩ := a
          cases s <;> simp [Addr.add]
        rw [hadd] at g5
        exact ⟨a, _, rfl, g5⟩
    obtain ⟨a, u, rfl, hu⟩ := hA
    obtain ⟨ce, el, fz, e1, e2, e3⟩ := cell_some hu
    obtain ⟨b, off, s⟩ := a
    simp only at e1 e2 e3
    subst e2
    have hget : ∀ j u, (rows ea xs)[j]? = some u → ce[off + j]? = some u := by
      intro j u hj
      have hne : xs ≠ [] := fun e => by rw [e] at hj; simp [rows] at hj
      obtain ⟨b', off', e4, _, e5⟩ := hs.2 hne
      injection e4 with e4
      injection e4 with e4 e6
      subst e4 e6
      obtain ⟨i, k, y, rfl, hy, hk⟩ := flatMap_inv (enc := ea) (c := c) (fun y => ⟨F.len y, fun u hu => List.all_eq_true.1 (F.one y) u hu⟩) xs j u hj
      obtain ⟨ce', el', fz', g1, _, g3⟩ := cell_some (e5 i y hy k u hk)
      simp only at g1 g3
      rw [e1] at g1
      injection g1 with g1
      injection g1 with g1
      subst g1
      rw [← Nat.add_assoc]
      exact g3
    refine ⟨b, off, ce, el, fz, rfl, e1, ?_, hget⟩
    rcases Nat.eq_zero_or_pos (rows ea xs).length with hz | hz
    · rw [hz]; have := (Array.getElem?_eq_some_iff.1 e3).1; omega
    · have := hget ((rows ea xs).length - 1) _ (List.getElem?_eq_getElem (by omega))
      have := (Array.getElem?_eq_some_iff.1 this).1
      omega

theorem no_all : ∀ {l : List Value}, noAddrL l = true → ∀ v ∈ l, noAddr v = true
  | [], _, v, hv => by cases hv
  | a :: r, h, v, hv => by
    simp only [noAddrL, Bool.and_eq_true] at h
    rcases List.mem_cons.1 hv with rfl | hv
    · exact h.1
    · exact no_all h.2 v hv
/-- Slices of arguments, each under a name of its own. -/
theorem rows_entry {w : World} (rs : List (Option Addr × Nat × Nat × List Value)) (h : ∀ r ∈ rs, Row w r.1 r.2.1 r.2.2.1 r.2.2.2 ∧ ∀ v ∈ r.2.2.2, noAddr v = true) :
    ∃ φ κ, Rel w φ κ (Hp (rs.length + 1) (none :: rs.map fun r => some (.cells ⟨r.2.2.2, 0, false⟩))) w ∧
      ∀ i r, rs[i]? = some r → Vm.ren φ κ (.slice (some ⟨i + 1, 0, none⟩) r.2.1 r.2.2.1) = .slice r.1 r.2.1 r.2.2.1 ∧ okV (Hp (rs.length + 1) (none :: rs.map fun r => some (.cells ⟨r.2.2.2, 0, false⟩))).N κ (.slice (some ⟨i + 1, 0, none⟩) r.2.1 r.2.2.1) := by
  have key : ∀ r : Option Addr × Nat × Nat × List Value, ∃ p : (Nat × Nat) × Nat, r ∈ rs → ∀ (φ : Nat → Nat × Nat) (κ : Nat → Nat) (N : Nat → Prop) (k : Nat), φ k = p.1 → κ k = p.2 → N k → entOK φ κ N w k (.cells ⟨r.2.2.2, 0, false⟩) ∧ Vm.ren φ κ (.slice (some ⟨k, 0, none⟩) r.2.1 r.2.2.1) = .slice r.1 r.2.1 r.2.2.1 ∧ okV N κ (.slice (some ⟨k, 0, none⟩) r.2.1 r.2.2.1) := by
    intro r
    by_cases hr : r ∈ rs
    · obtain ⟨p, K, hp⟩ := (h r hr).1.ent (h r hr).2
      exact ⟨(p, K), fun _ => hp⟩
    · exact ⟨((0, 0), 0), fun h => absurd h hr⟩
  obtain ⟨g, hg⟩ := Classical.axiomOfChoice key
  let φ : Nat → Nat × Nat := fun k => match rs[k - 1]? with | some r => (g r).1 | none => (0, 0)
  let κ : Nat → Nat := fun k => match rs[k - 1]? with | some r => (g r).2 | none => 0
  have e1 : ∀ i r, rs[i]? = some r → φ (i + 1) = (g r).1 ∧ κ (i + 1) = (g r).2 := fun i r hi => by
    simp only [φ, κ, Nat.add_sub_cancel, hi, and_self]
  have hlen : (none :: rs.map fun r => some (AObj.cells ⟨r.2.2.2, 0, false⟩)).length = rs.length + 1 := by simp
  have hN : ∀ i, i < rs.length → (Hp (rs.length + 1) (none :: rs.map fun r => some (.cells ⟨r.2.2.2, 0, false⟩))).N (i + 1) := fun i hi => by
    show AH.sees _ _ = true
    rw [Hq_sees, hlen]
    simpa using hi
  refine ⟨φ, κ, ?_, fun i r hi => ?_⟩
  · have : ∀ k o, ((none :: rs.map fun r => some (AObj.cells ⟨r.2.2.2, 0, false⟩))[k]?).join = some o → entOK φ κ (Hp (rs.length + 1) (none :: rs.map fun r => some (.cells ⟨r.2.2.2, 0, false⟩))).N w k o := by
      intro k o hk
      cases k with
      | zero => simp at hk
      | succ i =>
        rw [List.getElem?_cons_succ, List.getElem?_map] at hk
        cases hi : rs[i]? with
        | none => rw [hi] at hk; cases hk
        | some r =>
          rw [hi] at hk
          simp only [Option.map_some, Option.join_some, Option.some.injEq] at hk
          subst hk
          exact (hg r (List.mem_of_getElem? hi) φ κ _ (i + 1) (e1 i r hi).1 (e1 i r hi).2 (hN i (List.getElem?_eq_some_iff.1 hi).1)).1
    rw [← hlen] at this ⊢
    exact rel_entry this
  · exact (hg r (List.mem_of_getElem? hi) φ κ _ (i + 1) (e1 i r hi).1 (e1 i r hi).2 (hN i (List.getElem?_eq_some_iff.1 hi).1)).2
end Go.Proofs.Ythoigkgjidcklaa

