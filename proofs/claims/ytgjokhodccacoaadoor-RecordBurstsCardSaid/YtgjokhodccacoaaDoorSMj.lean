import Derived.Test.YtgjokhodccacoaaDoorSMi
set_option linter.unusedSimpArgs false
set_option linter.unusedVariables false
namespace Go.Vm
open Go Go.RowKit
section
variable {P : Program} {w : Bool} {t el : TypeId} {f : TypeInfo} {s d e k n i sz : Nat} {l : Fr} {h : AH} {K : Value → AH → Prop}
end
theorem get_hq {wl k : Nat} {hid : List (Nat × Nat)} {L : List (Option AObj)} {o : AObj} (hf : freeOf hid k = true) (hL : (L[k]?).join = some o) : (Hq wl hid L).get k = some o := (free_get hf).trans hL
theorem Fc.liftP {P : Program} {f : Nat} {cs : List Rs1} {os : List Ns1} {mk : List Value → List Value} {mkv : List Value → Value} {ps : List (Nat × Nat × Bool)} {caps : List Nat}
    (F : Fc P f (mk (slicesAt 1 cs caps)) (Hp (cs.length + 1) (none :: rsL cs)) (mkv (newsAt (cs.length + 1) os)) (Hp (cs.length + 1) ((none :: rsL cs) ++ (nsO os).map some)))
    (hmk : MkL mk) (hmv : MkV mkv) (hno : ∀ p ∈ cs, noAddrL p.2 = true) (hos : ∀ o ∈ os, noAddrL o.2.1 = true) {h : AH} (h0 : h.sees 0 = true) (hp : PlOK h ps cs caps) :
    Fc P f (mk (placesV ps cs caps)) h (mkv (newsAt h.next os)) (h.news (nsO os)) := by
 obtain ⟨l1, l2⟩ := hp.len
 have hlen : (none :: rsL cs).length = cs.length + 1 := by simp [rsL]
 obtain ⟨q1, q2, q3⟩ := PlOK.fr (ψ := psL ((0, 0, false) :: ps)) (B := cs.length + 1) 1 hp hno (fun j p hj => by unfold psL; rw [show 1 + j = j + 1 from by omega, List.getElem?_cons_succ, hj]; rfl) (by omega)
 have F' := F
 rw [← hlen] at F'
 have hosO : ∀ o ∈ nsO os, ∃ x ∈ os, o = .cells ⟨x.2.1, x.2.2, true⟩ := fun o ho => by
  obtain ⟨x, hx, rfl⟩ := List.mem_map.1 ho
  exact ⟨x, hx, rfl⟩
 refine Fc.frameL F' ((0, 0, false) :: ps) ?_ ?_ ?_ ?_ (fun o ho => ?_) ?_ ?_ ?_
 ·rw [List.all_eq_true]
  intro o ho
  obtain ⟨x, hx, rfl⟩ := hosO o ho
  rfl
 ·rw [hlen]
  exact ⟨fr_none h0, q1⟩
 ·rw [hlen]
  exact hmk.ok _ _ _ q3
 ·rw [hlen]
  exact hmv.ok _ _ _ (newsAt_ok os _ (Nat.le_refl _) (by simp [nsO]))
 ·obtain ⟨x, hx, rfl⟩ := hosO o ho
  exact okML_noAddr _ _ _ (hos x hx)
 ·rw [hmk.mw, q2]
 ·rw [hlen, hmv.mw, newsAt_mw os _ (Nat.le_refl _), Nat.sub_self, Nat.add_zero]
 ·congr 1
  unfold nsO
  rw [List.map_map]
  refine List.map_congr_left fun x hx => ?_
  simp only [Function.comp, mwO, mwL_noAddr _ _ (hos x hx)]
theorem Fc.lift1o {P : Program} {f n c : Nat} {cs : List Value} {os : List Ns1} {mk : List Value → List Value} {mkv : List Value → Value}
    (F : Fc P f (mk [.slice (some ⟨1, 0, none⟩) n c]) (Hp 2 [none, some (.cells ⟨cs, 0, false⟩)]) (mkv (newsAt 2 os)) (Hp 2 ([none, some (.cells ⟨cs, 0, false⟩)] ++ (nsO os).map some)))
    (hmk : MkL mk) (hmv : MkV mkv) (hno : noAddrL cs = true) (hos : ∀ o ∈ os, noAddrL o.2.1 = true) {h : AH} {k sz : Nat} {op : Bool} (h0 : h.sees 0 = true) (hg : h.get k = some (.cells ⟨cs, sz, op⟩)) :
    Fc P f (mk [.slice (some ⟨k, 0, none⟩) n c]) h (mkv (newsAt h.next os)) (h.news (nsO os)) :=
 Fc.liftP (cs := [(n, cs)]) (caps := [c]) (ps := [(k, 0, false)]) F hmk hmv (fun p hp => by simp at hp; subst hp; exact hno) hos h0 ⟨⟨get_sees hg, ⟨_, hg, ⟨[], by simp⟩, fun _ => Nat.zero_le _⟩⟩, ⟨(fun e => by cases e), trivial⟩⟩
def AtF (l2 : Fr) (h2 : AH) : AEx → Fr → List Nat → AH → Prop := fun e l ms h => e = .normal ∧ ms = [] ∧ h = h2 ∧ subF l l2
theorem AtF.mk {l l2 : Fr} {h2 : AH} (hd : subF l l2) : AtF l2 h2 .normal l [] h2 := ⟨rfl, rfl, rfl, hd⟩
theorem low_get {L T : List (Option AObj)} {k : Nat} {x : Option AObj} (h : L[k]? = some x) : (L ++ T)[k]? = some x := by rw [List.getElem?_append_left (List.getElem?_eq_some_iff.1 h).1]; exact h
theorem get_lt {L : List (Option AObj)} {k : Nat} {x : Option AObj} (h : L[k]? = some x) : k < L.length := (List.getElem?_eq_some_iff.1 h).1
end Go.Vm
