/-
  Walks on memory by names: contracts of what reads slices and returns new ones, lifted to whatever memory.
-/
import Derived.Test.YthoigkgjidcklaaMf
set_option linter.unusedSimpArgs false
set_option linter.unusedVariables false
namespace Go.Vm
open Go Go.RowKit

/-- Slices that are read: how many elements, which cells. -/
abbrev Rs1 := Nat × List Value
def rsL (cs : List Rs1) : List (Option AObj) := cs.map fun p => some (AObj.cells ⟨p.2, 0, false⟩)
def slicesAt : Nat → List Rs1 → List Nat → List Value
  | i, (n, _) :: cs, c :: caps => .slice (some ⟨i, 0, none⟩) n c :: slicesAt (i + 1) cs caps
  | _, _, _ => []
/-- New slices: how many elements, which cells, of which size. -/
abbrev Ns1 := Nat × List Value × Nat
def nsO (os : List Ns1) : List AObj := os.map fun o => AObj.cells ⟨o.2.1, o.2.2, true⟩
def newsAt : Nat → List Ns1 → List Value
  | _, [] => []
  | i, (n, _) :: r => .slice (some ⟨i, 0, none⟩) n openB :: newsAt (i + 1) r
def RdL (h : AH) : List Value → List Rs1 → Prop
  | [], [] => True
  | s :: ss, (n, cs) :: r => Rd h s n cs ∧ RdL h ss r
  | _, _ => False
def placesV : List (Nat × Nat × Bool) → List Rs1 → List Nat → List Value
  | p :: ps, (n, _) :: cs, c :: caps => rdV p n c :: placesV ps cs caps
  | _, _, _ => []
def PlOK (h : AH) : List (Nat × Nat × Bool) → List Rs1 → List Nat → Prop
  | [], [], [] => True
  | p :: ps, (n, cs) :: r, c :: caps => RdAt h p n cs ∧ (p.2.2 = true → c = 0) ∧ PlOK h ps r caps
  | _, _, _ => False
theorem RdL.places {h : AH} : ∀ {ss : List Value} {cs : List Rs1}, RdL h ss cs → ∃ ps caps, ss = placesV ps cs caps ∧ PlOK h ps cs caps
  | [], [], _ => ⟨[], [], rfl, trivial⟩
  | s :: ss, (n, cs) :: r, ⟨⟨p, c, e, h1, h2⟩, hr⟩ => by
    obtain ⟨ps, caps, e2, h3⟩ := RdL.places hr
    exact ⟨p :: ps, c :: caps, by rw [placesV, ← e, ← e2], h1, h2, h3⟩
  | [], _ :: _, h => h.elim
  | _ :: _, [], h => h.elim
theorem PlOK.len {h : AH} : ∀ {ps : List (Nat × Nat × Bool)} {cs : List Rs1} {caps : List Nat}, PlOK h ps cs caps → ps.length = cs.length ∧ caps.length = cs.length
  | [], [], [], _ => ⟨rfl, rfl⟩
  | p :: ps, (n, cs) :: r, c :: caps, ⟨_, _, hr⟩ => by
    have := PlOK.len hr
    simp [this.1, this.2]
  | [], [], _ :: _, h => h.elim
  | [], _ :: _, _, h => h.elim
  | _ :: _, [], _, h => h.elim
  | _ :: _, _ :: _, [], h => h.elim
theorem PlOK.fr {h : AH} {ψ : Nat → Nat × Nat × Bool} {B : Nat} : ∀ {ps : List (Nat × Nat × Bool)} {cs : List Rs1} {caps : List Nat} (i : Nat), PlOK h ps cs caps → (∀ p ∈ cs, noAddrL p.2 = true) → (∀ j p, ps[j]? = some p → ψ (i + j) = p) → i + cs.length ≤ B →
    frOK h ψ B i (rsL cs) ∧ (slicesAt i cs caps).map (mw ψ) = placesV ps cs caps ∧ ∀ s ∈ slicesAt i cs caps, okM (xiP ψ) B s
  | [], [], [], i, _, _, _, _ => ⟨trivial, rfl, fun s hs => by cases hs⟩
  | p :: ps, (n, cs) :: r, c :: caps, i, ⟨h1, h2, hr⟩, hno, hψ, hB => by
    simp only [List.length_cons] at hB
    have hψ0 : ψ i = p := hψ 0 p rfl
    obtain ⟨q1, q2, q3⟩ := PlOK.fr (ψ := ψ) (B := B) (i + 1) hr (fun p hp => hno p (by simp [hp])) (fun j p hj => by rw [show i + 1 + j = i + (j + 1) from by omega]; exact hψ (j + 1) p (by simpa using hj)) (by omega)
    refine ⟨⟨fr_rd hψ0 h1 (hno (n, cs) (by simp)), q1⟩, ?_, fun s hs => ?_⟩
    · simp only [slicesAt, placesV, List.map_cons, q2]
      rw [mw_sl hψ0]
    · rcases List.mem_cons.1 hs with rfl | hs
      · exact okM_sl hψ0 (by omega) h1 h2
      · exact q3 s hs
  | [], [], _ :: _, _, h, _, _, _ => h.elim
  | [], _ :: _, _, _, h, _, _, _ => h.elim
  | _ :: _, [], _, _, h, _, _, _ => h.elim
  | _ :: _, _ :: _, [], _, h, _, _, _ => h.elim

/-- Values that are made of some slices. -/
structure MkL (mk : List Value → List Value) : Prop where
  mw : ∀ ψ ss, mwL ψ (mk ss) = mk (ss.map (Vm.mw ψ))
  ok : ∀ ξ B ss, (∀ s ∈ ss, okM ξ B s) → okML ξ B (mk ss)
structure MkV (mk : List Value → Value) : Prop where
  mw : ∀ ψ ss, Vm.mw ψ (mk ss) = mk (ss.map (Vm.mw ψ))
  ok : ∀ ξ B ss, (∀ s ∈ ss, okM ξ B s) → okM ξ B (mk ss)

theorem newsAt_mw {ψ : Nat → Nat × Nat × Bool} {B nx : Nat} : ∀ (os : List Ns1) (i : Nat), B ≤ i → (newsAt i os).map (mw (psi1 ψ B nx)) = newsAt (nx + (i - B)) os
  | [], _, _ => rfl
  | (n, x) :: r, i, hi => by
    have ih := newsAt_mw (ψ := ψ) (B := B) (nx := nx) r (i + 1) (by omega)
    simp only [newsAt, List.map_cons, ih]
    have e : psi1 ψ B nx i = (nx + (i - B), 0, false) := by
      unfold psi1
      rw [if_neg (by omega)]
    rw [mw_sl e, show nx + (i + 1 - B) = nx + (i - B) + 1 from by omega]
    rfl
theorem newsAt_ok {ψ : Nat → Nat × Nat × Bool} {B nx C : Nat} : ∀ (os : List Ns1) (i : Nat), B ≤ i → i + os.length ≤ C → ∀ s ∈ newsAt i os, okM (xiP (psi1 ψ B nx)) C s
  | [], _, _, _, s, hs => by cases hs
  | (n, x) :: r, i, hi, hC, s, hs => by
    simp only [List.length_cons] at hC
    rcases List.mem_cons.1 hs with rfl | hs
    · have e : psi1 ψ B nx i = (nx + (i - B), 0, false) := by
        unfold psi1
        rw [if_neg (by omega)]
      simp only [okM, xiP]
      refine ⟨by omega, ?_⟩
      show okS (if (psi1 ψ B nx i).2.2 = true then _ else _) _ _
      rw [e]
      trivial
    · exact newsAt_ok r (i + 1) (by omega) (by omega) s hs

/-- A contract on slices alone holds wherever they stand. -/
theorem Fc.lift {P : Program} {f : Nat} {cs : List Rs1} {os : List Ns1} {mk : List Value → List Value} {mkv : List Value → Value}
    (F : ∀ caps : List Nat, caps.length = cs.length → Fc P f (mk (slicesAt 1 cs caps)) (Hp (cs.length + 1) (none :: rsL cs)) (mkv (newsAt (cs.length + 1) os)) (Hp (cs.length + 1) ((none :: rsL cs) ++ (nsO os).map some)))
    (hmk : MkL mk) (hmv : MkV mkv) (hno : ∀ p ∈ cs, noAddrL p.2 = true) (hos : ∀ o ∈ os, noAddrL o.2.1 = true) {h : AH} {ss : List Value} (h0 : h.sees 0 = true) (r : RdL h ss cs) :
    Fc P f (mk ss) h (mkv (newsAt h.next os)) (h.news (nsO os)) := by
  obtain ⟨ps, caps, rfl, hp⟩ := r.places
  obtain ⟨l1, l2⟩ := hp.len
  have hlen : (none :: rsL cs).length = cs.length + 1 := by simp [rsL]
  obtain ⟨q1, q2, q3⟩ := PlOK.fr (ψ := psL ((0, 0, false) :: ps)) (B := cs.length + 1) 1 hp hno (fun j p hj => by unfold psL; rw [show 1 + j = j + 1 from by omega, List.getElem?_cons_succ, hj]; rfl) (by omega)
  have F' := F caps l2
  rw [← hlen] at F'
  have hosO : ∀ o ∈ nsO os, ∃ x ∈ os, o = .cells ⟨x.2.1, x.2.2, true⟩ := fun o ho => by
    obtain ⟨x, hx, rfl⟩ := List.mem_map.1 ho
    exact ⟨x, hx, rfl⟩
  refine Fc.frameL F' ((0, 0, false) :: ps) ?_ ?_ ?_ ?_ (fun o ho => ?_) ?_ ?_ ?_
  · rw [List.all_eq_true]
    intro o ho
    obtain ⟨x, hx, rfl⟩ := hosO o ho
    rfl
  · rw [hlen]
    exact ⟨fr_none h0, q1⟩
  · rw [hlen]
    exact hmk.ok _ _ _ q3
  · rw [hlen]
    exact hmv.ok _ _ _ (newsAt_ok os _ (Nat.le_refl _) (by simp [nsO]))
  · obtain ⟨x, hx, rfl⟩ := hosO o ho
    exact okML_noAddr _ _ _ (hos x hx)
  · rw [hmk.mw, q2]
  · rw [hlen, hmv.mw, newsAt_mw os _ (Nat.le_refl _), Nat.sub_self, Nat.add_zero]
  · congr 1
    unfold nsO
    rw [List.map_map]
    refine List.map_congr_left fun x hx => ?_
    simp only [Function.comp, mwO, mwL_noAddr _ _ (hos x hx)]

theorem mwL_app {ψ : Nat → Nat × Nat × Bool} : ∀ (a b : List Value), mwL ψ (a ++ b) = mwL ψ a ++ mwL ψ b
  | [], _ => rfl
  | v :: r, b => by simp only [List.cons_append, mwL, mwL_app r b]
theorem mwL_map' {ψ : Nat → Nat × Nat × Bool} : ∀ (a : List Value), mwL ψ a = a.map (mw ψ)
  | [] => rfl
  | v :: r => by simp only [List.map_cons, mwL, mwL_map' r]
theorem okML_app {ξ : Nat → Xi} {B : Nat} {a b : List Value} : okML ξ B (a ++ b) ↔ okML ξ B a ∧ okML ξ B b := by
  rw [okML_iff, okML_iff, okML_iff]
  constructor
  · exact fun h => ⟨fun v hv => h v (by simp [hv]), fun v hv => h v (by simp [hv])⟩
  · rintro ⟨h1, h2⟩ v hv
    rcases List.mem_append.1 hv with hv | hv
    · exact h1 v hv
    · exact h2 v hv
/-- Slices between what has no address. -/
theorem MkL.mid {pre post : List Value} (h1 : noAddrL pre = true) (h2 : noAddrL post = true) : MkL (fun ss => pre ++ ss ++ post) :=
  ⟨fun ψ ss => by rw [mwL_app, mwL_app, mwL_noAddr _ _ h1, mwL_noAddr _ _ h2, mwL_map'], fun ξ B ss h => okML_app.2 ⟨okML_app.2 ⟨okML_noAddr _ _ _ h1, okML_iff.2 h⟩, okML_noAddr _ _ _ h2⟩⟩
theorem MkL.app {post : List Value} (h2 : noAddrL post = true) : MkL (fun ss => ss ++ post) :=
  ⟨fun ψ ss => by rw [mwL_app, mwL_noAddr _ _ h2, mwL_map'], fun ξ B ss h => okML_app.2 ⟨okML_iff.2 h, okML_noAddr _ _ _ h2⟩⟩
theorem MkV.const {v : Value} (h : noAddr v = true) : MkV (fun _ => v) := ⟨fun ψ ss => mw_noAddr _ _ h, fun ξ B ss _ => okM_noAddr _ _ _ h⟩
theorem MkV.agg {mk : List Value → List Value} (h : MkL mk) : MkV (fun ss => .agg ⟨mk ss⟩) := ⟨fun ψ ss => by simp only [Vm.mw, mwA, h.mw], fun ξ B ss hs => h.ok ξ B ss hs⟩
theorem MkV.tup {mk : List Value → List Value} (h : MkL mk) : MkV (fun ss => .tuple ⟨mk ss⟩) := ⟨fun ψ ss => by simp only [Vm.mw, mwA, h.mw], fun ξ B ss hs => h.ok ξ B ss hs⟩
theorem MkV.one : MkV (fun ss => ss.headD undef) := ⟨fun ψ ss => by cases ss <;> rfl, fun ξ B ss hs => by
  cases ss with
  | nil => trivial
  | cons v r => exact hs v (by simp)⟩
/-- A first slice among arguments, then others. -/
theorem MkL.split {n : Nat} {mid : List Value} (hm : noAddrL mid = true) : MkL (fun ss => ss.take n ++ mid ++ ss.drop n) :=
  ⟨fun ψ ss => by rw [mwL_app, mwL_app, mwL_noAddr _ _ hm, mwL_map', mwL_map', List.map_take, List.map_drop], fun ξ B ss h => okML_app.2 ⟨okML_app.2 ⟨okML_iff.2 fun v hv => h v (List.mem_of_mem_take hv), okML_noAddr _ _ _ hm⟩, okML_iff.2 fun v hv => h v (List.mem_of_mem_drop hv)⟩⟩
theorem MkL.agg1 {mk : List Value → List Value} (h : MkL mk) {post : List Value} (hp : noAddrL post = true) : MkL (fun ss => .agg ⟨mk ss⟩ :: post) :=
  ⟨fun ψ ss => by simp only [mwL, Vm.mw, mwA, h.mw, mwL_noAddr _ _ hp], fun ξ B ss hs => ⟨h.ok ξ B ss hs, okML_noAddr _ _ _ hp⟩⟩
/-- One slice. -/
theorem Fc.lift1 {P : Program} {f n : Nat} {cs : List Value} {os : List Ns1} {mk : List Value → List Value} {mkv : List Value → Value}
    (F : ∀ c : Nat, Fc P f (mk [.slice (some ⟨1, 0, none⟩) n c]) (Hp 2 [none, some (.cells ⟨cs, 0, false⟩)]) (mkv (newsAt 2 os)) (Hp 2 ([none, some (.cells ⟨cs, 0, false⟩)] ++ (nsO os).map some)))
    (hmk : MkL mk) (hmv : MkV mkv) (hno : noAddrL cs = true) (hos : ∀ o ∈ os, noAddrL o.2.1 = true) {h : AH} {s : Value} (h0 : h.sees 0 = true) (r : Rd h s n cs) :
    Fc P f (mk [s]) h (mkv (newsAt h.next os)) (h.news (nsO os)) :=
  Fc.lift (cs := [(n, cs)]) (fun caps hc => by
    match caps, hc with
    | [c], _ => exact F c) hmk hmv (fun p hp => by simp at hp; subst hp; exact hno) hos h0 ⟨r, trivial⟩
/-- Two slices. -/
theorem Fc.lift2 {P : Program} {f n m : Nat} {cs ds : List Value} {os : List Ns1} {mk : List Value → List Value} {mkv : List Value → Value}
    (F : ∀ c d : Nat, Fc P f (mk [.slice (some ⟨1, 0, none⟩) n c, .slice (some ⟨2, 0, none⟩) m d]) (Hp 3 [none, some (.cells ⟨cs, 0, false⟩), some (.cells ⟨ds, 0, false⟩)]) (mkv (newsAt 3 os)) (Hp 3 ([none, some (.cells ⟨cs, 0, false⟩), some (.cells ⟨ds, 0, false⟩)] ++ (nsO os).map some)))
    (hmk : MkL mk) (hmv : MkV mkv) (hno : noAddrL cs = true) (hno2 : noAddrL ds = true) (hos : ∀ o ∈ os, noAddrL o.2.1 = true) {h : AH} {s t : Value} (h0 : h.sees 0 = true) (r : Rd h s n cs) (r2 : Rd h t m ds) :
    Fc P f (mk [s, t]) h (mkv (newsAt h.next os)) (h.news (nsO os)) :=
  Fc.lift (cs := [(n, cs), (m, ds)]) (fun caps hc => by
    match caps, hc with
    | [c, d], _ => exact F c d) hmk hmv (fun p hp => by
      simp at hp
      rcases hp with rfl | rfl
      · exact hno
      · exact hno2) hos h0 ⟨r, r2, trivial⟩
/-- No slice. -/
theorem Fc.lift0 {P : Program} {f : Nat} {args : List Value} {v : Value} (F : Fc P f args (Hp 1 [none]) v (Hp 1 [none])) (ha : noAddrL args = true) (hv : noAddr v = true) {h : AH} (h0 : h.sees 0 = true) : Fc P f args h v h := by
  have := Fc.lift (cs := []) (os := []) (mk := fun ss => args ++ ss ++ []) (mkv := fun _ => v) (ss := []) (fun caps hc => by
    obtain rfl : caps = [] := List.eq_nil_of_length_eq_zero hc
    simp only [slicesAt, List.append_nil]
    exact F) (MkL.mid ha rfl) (MkV.const hv) (fun p hp => by cases hp) (fun p hp => by cases hp) h0 trivial
  simp only [List.append_nil] at this
  exact this
end Go.Vm
