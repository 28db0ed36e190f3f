/-
  Walks on memory by names: lifts at known rooms, parts of slices, ends with rows of one's own.
-/
import Derived.Test.YthoigkgjidcklaaMi
set_option linter.unusedSimpArgs false
set_option linter.unusedVariables false
namespace Go.Vm
open Go Go.RowKit
section
variable {P : Program} {w : Bool} {t el : TypeId} {f : TypeInfo} {s d e k n i sz : Nat} {l : Fr} {h : AH} {K : Value → AH → Prop}
/-- Some elements out of a row with open room. -/
theorem gen_mid {m : Nat} {x y : Int} (hu : P.underlying t = some (.slice el)) (hi : P.info? el = some f) (hsz : f.size = sz) (hl : lk l s = some (.slice (some ⟨k, 0, none⟩) n openB)) (hd : lk l d = some (.int .i64 x)) (he : lk l e = some (.int .i64 y)) (hx : x = i) (hy : y = (i : Int) + m) (hn : i + m ≤ n) (hm : 0 < m ∨ i = 0) (q : K (.slice (some ⟨k, i * sz, none⟩) m (openB + i)) h) :
    iStep P w (.gen (.slice t (.tmp s) (some (.tmp d)) (some (.tmp e)) none)) l h K := by
  obtain rfl : y = ((i + m : Nat) : Int) := by omega
  subst hx
  refine ⟨_, _, ?_, q⟩
  have ho : ¬ openB < openB := Nat.lt_irrefl _
  have h1 : aSlice P t (.slice (some ⟨k, 0, none⟩) n openB) (some (.int .i64 i)) (some (.int .i64 (i + m : Nat))) none = some (.slice (some ⟨k, i * sz, none⟩) m (openB + i)) := by
    have n1 : natOf (some (.int .i64 (i : Int))) 0 = some i := by simp [natOf]
    have n2 : natOf (some (.int .i64 ((i + m : Nat) : Int))) n = some (i + m) := by
      have : (0 : Int) ≤ ((i + m : Nat) : Int) := by omega
      simp only [natOf, this, if_true, Int.toNat_natCast]
    have n3 : natOf none openB = some openB := rfl
    simp only [aSlice, hu, hi, n1, n2, n3, hsz]
    rw [if_neg ho, if_neg (by simp), if_pos ⟨by omega, hn, by omega⟩, Nat.add_sub_cancel_left]
    simp only [Addr.add, Nat.zero_add]
    split
    · rename_i hz; rw [hz]
    · rfl
  have e1 : aEnv (trOf l) (.tmp s) = some (.slice (some ⟨k, 0, none⟩) n openB) := by simp only [aEnv, trOf_get, hl]
  have e2 : aOptV (aEnv (trOf l)) (some (.tmp d)) = some (some (.int .i64 i)) := by simp only [aOptV, aEnv, trOf_get, hd]
  have e3 : aOptV (aEnv (trOf l)) (some (.tmp e)) = some (some (.int .i64 (i + m : Nat))) := by simp only [aOptV, aEnv, trOf_get, he]
  have e4 : aOptV (aEnv (trOf l)) none = some none := rfl
  simp only [aOp, e1, e2, e3, e4, h1]
/-- None of them. -/
theorem gen_mid0 {x y : Int} (hu : P.underlying t = some (.slice el)) (hi : P.info? el = some f) (hl : lk l s = some (.slice (some ⟨k, 0, none⟩) n openB)) (hd : lk l d = some (.int .i64 x)) (he : lk l e = some (.int .i64 y)) (hx : x = i) (hy : y = i) (hn : i ≤ n) (h0 : i ≠ 0) (q : K (.slice (some ⟨h.next, 0, none⟩) 0 openB) h.bump) :
    iStep P w (.gen (.slice t (.tmp s) (some (.tmp d)) (some (.tmp e)) none)) l h K := by
  subst hx hy
  refine ⟨_, _, ?_, q⟩
  have ho : ¬ openB < openB := Nat.lt_irrefl _
  have h1 : ∀ h : AH, aSlice P t (.slice (some ⟨k, 0, none⟩) n openB) (some (.int .i64 i)) (some (.int .i64 i)) none = none := fun _ => by
    simp [aSlice, hu, hi, natOf, ho, h0]
  have h2 : aSliceEnd P h t (.slice (some ⟨k, 0, none⟩) n openB) (some (.int .i64 i)) (some (.int .i64 i)) none = some (.slice (some ⟨h.next, 0, none⟩) 0 openB, h.bump) := by
    simp [aSliceEnd, hu, hi, natOf, hn]
  have e1 : aEnv (trOf l) (.tmp s) = some (.slice (some ⟨k, 0, none⟩) n openB) := by simp only [aEnv, trOf_get, hl]
  have e2 : aOptV (aEnv (trOf l)) (some (.tmp d)) = some (some (.int .i64 i)) := by simp only [aOptV, aEnv, trOf_get, hd]
  have e3 : aOptV (aEnv (trOf l)) (some (.tmp e)) = some (some (.int .i64 i)) := by simp only [aOptV, aEnv, trOf_get, he]
  have e4 : aOptV (aEnv (trOf l)) none = some none := rfl
  simp only [aOp, e1, e2, e3, e4, h1 h, h2]
/-- The same, the first one's number written out. -/
theorem gen_midc {m : Nat} {x y : Int} (hu : P.underlying t = some (.slice el)) (hi : P.info? el = some f) (hsz : f.size = sz) (hl : lk l s = some (.slice (some ⟨k, 0, none⟩) n openB)) (he : lk l e = some (.int .i64 y)) (hx : x = i) (hy : y = (i : Int) + m) (hn : i + m ≤ n) (hm : 0 < m ∨ i = 0) (q : K (.slice (some ⟨k, i * sz, none⟩) m (openB + i)) h) :
    iStep P w (.gen (.slice t (.tmp s) (some (.const (.int .i64 x))) (some (.tmp e)) none)) l h K := by
  obtain rfl : y = ((i + m : Nat) : Int) := by omega
  subst hx
  refine ⟨_, _, ?_, q⟩
  have ho : ¬ openB < openB := Nat.lt_irrefl _
  have h1 : aSlice P t (.slice (some ⟨k, 0, none⟩) n openB) (some (.int .i64 i)) (some (.int .i64 (i + m : Nat))) none = some (.slice (some ⟨k, i * sz, none⟩) m (openB + i)) := by
    have n1 : natOf (some (.int .i64 (i : Int))) 0 = some i := by simp [natOf]
    have n2 : natOf (some (.int .i64 ((i + m : Nat) : Int))) n = some (i + m) := by
      have : (0 : Int) ≤ ((i + m : Nat) : Int) := by omega
      simp only [natOf, this, if_true, Int.toNat_natCast]
    have n3 : natOf none openB = some openB := rfl
    simp only [aSlice, hu, hi, n1, n2, n3, hsz]
    rw [if_neg ho, if_neg (by simp), if_pos ⟨by omega, hn, by omega⟩, Nat.add_sub_cancel_left]
    simp only [Addr.add, Nat.zero_add]
    split
    · rename_i hz; rw [hz]
    · rfl
  have e1 : aEnv (trOf l) (.tmp s) = some (.slice (some ⟨k, 0, none⟩) n openB) := by simp only [aEnv, trOf_get, hl]
  have e2 : aOptV (aEnv (trOf l)) (some (.const (.int .i64 i))) = some (some (.int .i64 i)) := rfl
  have e3 : aOptV (aEnv (trOf l)) (some (.tmp e)) = some (some (.int .i64 (i + m : Nat))) := by simp only [aOptV, aEnv, trOf_get, he]
  have e4 : aOptV (aEnv (trOf l)) none = some none := rfl
  simp only [aOp, e1, e2, e3, e4, h1]
/-- None of them, the number written out. -/
theorem gen_mid0c {x y : Int} (hu : P.underlying t = some (.slice el)) (hi : P.info? el = some f) (hl : lk l s = some (.slice (some ⟨k, 0, none⟩) n openB)) (he : lk l e = some (.int .i64 y)) (hx : x = i) (hy : y = i) (hn : i ≤ n) (h0 : i ≠ 0) (q : K (.slice (some ⟨h.next, 0, none⟩) 0 openB) h.bump) :
    iStep P w (.gen (.slice t (.tmp s) (some (.const (.int .i64 x))) (some (.tmp e)) none)) l h K := by
  subst hx hy
  refine ⟨_, _, ?_, q⟩
  have ho : ¬ openB < openB := Nat.lt_irrefl _
  have h1 : ∀ h : AH, aSlice P t (.slice (some ⟨k, 0, none⟩) n openB) (some (.int .i64 i)) (some (.int .i64 i)) none = none := fun _ => by
    simp [aSlice, hu, hi, natOf, ho, h0]
  have h2 : aSliceEnd P h t (.slice (some ⟨k, 0, none⟩) n openB) (some (.int .i64 i)) (some (.int .i64 i)) none = some (.slice (some ⟨h.next, 0, none⟩) 0 openB, h.bump) := by
    simp [aSliceEnd, hu, hi, natOf, hn]
  have e1 : aEnv (trOf l) (.tmp s) = some (.slice (some ⟨k, 0, none⟩) n openB) := by simp only [aEnv, trOf_get, hl]
  have e2 : aOptV (aEnv (trOf l)) (some (.const (.int .i64 i))) = some (some (.int .i64 i)) := rfl
  have e3 : aOptV (aEnv (trOf l)) (some (.tmp e)) = some (some (.int .i64 i)) := by simp only [aOptV, aEnv, trOf_get, he]
  have e4 : aOptV (aEnv (trOf l)) none = some none := rfl
  simp only [aOp, e1, e2, e3, e4, h1 h, h2]
end
theorem get_hq {wl k : Nat} {hid : List (Nat × Nat)} {L : List (Option AObj)} {o : AObj} (hf : freeOf hid k = true) (hL : (L[k]?).join = some o) : (Hq wl hid L).get k = some o := (free_get hf).trans hL
theorem Hq_bump {wl : Nat} {hid : List (Nat × Nat)} {L : List (Option AObj)} : (Hq wl hid L).bump = Hq wl hid (L ++ [none]) := by
  unfold AH.bump Hq
  rw [trL_snoc]
  simp
theorem appK_zo {h : AH} {sz bytes k o n k2 o2 c2 : Nat} {K : Value → AH → Prop} : appK h sz bytes (.slice (some ⟨k, o, none⟩) n openB) (.slice (some ⟨k2, o2, none⟩) 0 c2) K = K (.slice (some ⟨k, o, none⟩) n openB) h := by
  unfold appK
  have e : sCells h sz (.slice (some ⟨k2, o2, none⟩) 0 c2) = some [] := by unfold sCells; exact if_pos rfl
  rw [e]
  simp only [slen_slice]
  exact propext ⟨fun h => (h.1 trivial).2, fun h => ⟨fun _ => ⟨.inr ⟨Nat.le_refl _, rfl⟩, h⟩, fun e => absurd rfl e⟩⟩
/-- How a function ends that returns one of its own rows, with open room. -/
theorem end_own {P : Program} {rs : List ResultVar} {l : Fr} {L : List (Option AObj)} {k n b sz : Nat} {cs : List Value} (hk : b ≤ k) (hno : noAddrL cs = true) (hL : L[k]? = some (some (.cells ⟨cs, sz, true⟩))) (hr : resF P l (Hp b L) rs = some [.slice (some ⟨k, 0, none⟩) n openB]) :
    EndR P rs b [.cells ⟨cs, sz, true⟩] (.slice (some ⟨b, 0, none⟩) n openB) .ret l [] (Hp b L) := by
  refine ⟨by simp, rfl, [.slice (some ⟨k, 0, none⟩) n openB], [k], [], hr, rfl, by simp, by simpa using hk, (fun p hp => by cases hp), ?_, ?_, fun i o2 h => .inr ?_⟩
  · show _ = mvS .same ⟨(fun k' => if k' < b then k' else [k].getD (k' - b) 0) b, 0, none⟩ n openB
    simp [mvS]
    rfl
  · exact ⟨by simp, trivial⟩
  · match i, h with
    | 0, h =>
      cases h
      refine ⟨(by intro e; cases e), _, (by show (Hp b L).get k = _; rw [Hp_get, hL]; rfl), ?_⟩
      exact ⟨(mvL_noAddr _ _ _ hno).symm, okML_noAddr _ _ _ hno, fun e => e, fun e => ⟨e, rfl⟩⟩
/-- As Fc.lift, at known rooms. -/
theorem Fc.liftP {P : Program} {f : Nat} {cs : List Rs1} {os : List Ns1} {mk : List Value → List Value} {mkv : List Value → Value} {ps : List (Nat × Nat × Bool)} {caps : List Nat}
    (F : Fc P f (mk (slicesAt 1 cs caps)) (Hp (cs.length + 1) (none :: rsL cs)) (mkv (newsAt (cs.length + 1) os)) (Hp (cs.length + 1) ((none :: rsL cs) ++ (nsO os).map some)))
    (hmk : MkL mk) (hmv : MkV mkv) (hno : ∀ p ∈ cs, noAddrL p.2 = true) (hos : ∀ o ∈ os, noAddrL o.2.1 = true) {h : AH} (h0 : h.sees 0 = true) (hp : PlOK h ps cs caps) :
    Fc P f (mk (placesV ps cs caps)) h (mkv (newsAt h.next os)) (h.news (nsO os)) := by
  obtain ⟨l1, l2⟩ := hp.len
  have hlen : (none :: rsL cs).length = cs.length + 1 := by simp [rsL]
  obtain ⟨q1, q2, q3⟩ := PlOK.fr (ψ := psL ((0, 0, false) :: ps)) (B := cs.length + 1) 1 hp hno (fun j p hj => by unfold psL; rw [show 1 + j = j + 1 from by omega, List.getElem?_cons_succ, hj]; rfl) (by omega)
  have F' := F
  rw [← hlen] at F'
  have hosO : ∀ o ∈ nsO os, ∃ x ∈ os, o = .cells ⟨x.2.1, x.2.2, true⟩ := fun o ho => by
    obtain ⟨x, hx, rfl⟩ := List.mem_map.1 ho
    exact ⟨x, hx, rfl⟩
  refine Fc.frameL F' ((0, 0, false) :: ps) ?_ ?_ ?_ ?_ (fun o ho => ?_) ?_ ?_ ?_
  · rw [List.all_eq_true]
    intro o ho
    obtain ⟨x, hx, rfl⟩ := hosO o ho
    rfl
  · rw [hlen]
    exact ⟨fr_none h0, q1⟩
  · rw [hlen]
    exact hmk.ok _ _ _ q3
  · rw [hlen]
    exact hmv.ok _ _ _ (newsAt_ok os _ (Nat.le_refl _) (by simp [nsO]))
  · obtain ⟨x, hx, rfl⟩ := hosO o ho
    exact okML_noAddr _ _ _ (hos x hx)
  · rw [hmk.mw, q2]
  · rw [hlen, hmv.mw, newsAt_mw os _ (Nat.le_refl _), Nat.sub_self, Nat.add_zero]
  · congr 1
    unfold nsO
    rw [List.map_map]
    refine List.map_congr_left fun x hx => ?_
    simp only [Function.comp, mwO, mwL_noAddr _ _ (hos x hx)]
/-- Two slices with rooms that are known. -/
theorem Fc.lift2o {P : Program} {f n c m d : Nat} {cs ds : List Value} {os : List Ns1} {mk : List Value → List Value} {mkv : List Value → Value}
    (F : Fc P f (mk [.slice (some ⟨1, 0, none⟩) n c, .slice (some ⟨2, 0, none⟩) m d]) (Hp 3 [none, some (.cells ⟨cs, 0, false⟩), some (.cells ⟨ds, 0, false⟩)]) (mkv (newsAt 3 os)) (Hp 3 ([none, some (.cells ⟨cs, 0, false⟩), some (.cells ⟨ds, 0, false⟩)] ++ (nsO os).map some)))
    (hmk : MkL mk) (hmv : MkV mkv) (hno : noAddrL cs = true) (hno2 : noAddrL ds = true) (hos : ∀ o ∈ os, noAddrL o.2.1 = true) {h : AH} {k sz k2 sz2 : Nat} {op op2 : Bool} (h0 : h.sees 0 = true) (hg : h.get k = some (.cells ⟨cs, sz, op⟩)) (hg2 : h.get k2 = some (.cells ⟨ds, sz2, op2⟩)) :
    Fc P f (mk [.slice (some ⟨k, 0, none⟩) n c, .slice (some ⟨k2, 0, none⟩) m d]) h (mkv (newsAt h.next os)) (h.news (nsO os)) :=
  Fc.liftP (cs := [(n, cs), (m, ds)]) (caps := [c, d]) (ps := [(k, 0, false), (k2, 0, false)]) F hmk hmv (fun p hp => by
    simp at hp
    rcases hp with rfl | rfl
    · exact hno
    · exact hno2) hos h0 ⟨⟨get_sees hg, ⟨_, hg, ⟨[], by simp⟩, fun _ => Nat.zero_le _⟩⟩, ⟨(fun e => by cases e), ⟨⟨get_sees hg2, ⟨_, hg2, ⟨[], by simp⟩, fun _ => Nat.zero_le _⟩⟩, ⟨(fun e => by cases e), trivial⟩⟩⟩⟩
/-- Two slices, the first one in a struct. -/
theorem MkL.ag2 {a b c : List Value} (ha : noAddrL a = true) (hb : noAddrL b = true) (hc : noAddrL c = true) : MkL (fun ss => .agg ⟨a ++ ss.take 1⟩ :: (b ++ ss.drop 1 ++ c)) :=
  ⟨fun ψ ss => by
    have e1 : ∀ x : List Value, noAddrL x = true → x.map (Vm.mw ψ) = x := fun x hx => by rw [← mwL_map', mwL_noAddr _ _ hx]
    simp only [mwL, Vm.mw, mwA, mwL_map', List.map_append, e1 a ha, e1 b hb, e1 c hc, List.map_take, List.map_drop], fun ξ B ss h => ⟨okML_app.2 ⟨okML_noAddr _ _ _ ha, okML_iff.2 fun v hv => h v (List.mem_of_mem_take hv)⟩, okML_app.2 ⟨okML_app.2 ⟨okML_noAddr _ _ _ hb, okML_iff.2 fun v hv => h v (List.mem_of_mem_drop hv)⟩, okML_noAddr _ _ _ hc⟩⟩⟩
/-- One slice with a room that is known. -/
theorem Fc.lift1o {P : Program} {f n c : Nat} {cs : List Value} {os : List Ns1} {mk : List Value → List Value} {mkv : List Value → Value}
    (F : Fc P f (mk [.slice (some ⟨1, 0, none⟩) n c]) (Hp 2 [none, some (.cells ⟨cs, 0, false⟩)]) (mkv (newsAt 2 os)) (Hp 2 ([none, some (.cells ⟨cs, 0, false⟩)] ++ (nsO os).map some)))
    (hmk : MkL mk) (hmv : MkV mkv) (hno : noAddrL cs = true) (hos : ∀ o ∈ os, noAddrL o.2.1 = true) {h : AH} {k sz : Nat} {op : Bool} (h0 : h.sees 0 = true) (hg : h.get k = some (.cells ⟨cs, sz, op⟩)) :
    Fc P f (mk [.slice (some ⟨k, 0, none⟩) n c]) h (mkv (newsAt h.next os)) (h.news (nsO os)) :=
  Fc.liftP (cs := [(n, cs)]) (caps := [c]) (ps := [(k, 0, false)]) F hmk hmv (fun p hp => by simp at hp; subst hp; exact hno) hos h0 ⟨⟨get_sees hg, ⟨_, hg, ⟨[], by simp⟩, fun _ => Nat.zero_le _⟩⟩, ⟨(fun e => by cases e), trivial⟩⟩
/-- How a function ends that returns one of its own rows, with open room, and a number. -/
theorem end_own2 {P : Program} {rs : List ResultVar} {l : Fr} {L : List (Option AObj)} {k n b sz : Nat} {e : Int} {cs : List Value} (hk : b ≤ k) (hno : noAddrL cs = true) (hL : L[k]? = some (some (.cells ⟨cs, sz, true⟩))) (hr : resF P l (Hp b L) rs = some [.slice (some ⟨k, 0, none⟩) n openB, .int .i64 e]) :
    EndR P rs b [.cells ⟨cs, sz, true⟩] (.tuple #[.slice (some ⟨b, 0, none⟩) n openB, .int .i64 e]) .ret l [] (Hp b L) := by
  refine ⟨by simp, rfl, _, [k], [], hr, rfl, by simp, by simpa using hk, (fun p hp => by cases hp), ?_, ?_, fun i o2 h => .inr ?_⟩
  · show Value.tuple #[_, _] = .tuple ⟨[mvS .same ⟨(fun k' => if k' < b then k' else [k].getD (k' - b) 0) b, 0, none⟩ n openB, _]⟩
    simp [mvS]
    rfl
  · exact ⟨⟨by simp, trivial⟩, trivial, trivial⟩
  · match i, h with
    | 0, h =>
      cases h
      refine ⟨(by intro e; cases e), _, (by show (Hp b L).get k = _; rw [Hp_get, hL]; rfl), ?_⟩
      exact ⟨(mvL_noAddr _ _ _ hno).symm, okML_noAddr _ _ _ hno, fun e => e, fun e => ⟨e, rfl⟩⟩
theorem appK_z1 {h : AH} {sz bytes k o n c2 : Nat} {K : Value → AH → Prop} : appK h sz bytes (.slice (some ⟨k, o, none⟩) n openB) (.slice none 0 c2) K = K (.slice (some ⟨k, o, none⟩) n openB) h := by
  unfold appK
  have e : sCells h sz (.slice none 0 c2) = some [] := by unfold sCells; exact if_pos rfl
  rw [e]
  simp only [slen_slice]
  exact propext ⟨fun h => (h.1 trivial).2, fun h => ⟨fun _ => ⟨.inr ⟨Nat.le_refl _, rfl⟩, h⟩, fun e => absurd rfl e⟩⟩
theorem appK_z2 {h : AH} {sz bytes c2 : Nat} {K : Value → AH → Prop} : appK h sz bytes (.slice none 0 0) (.slice none 0 c2) K = K (.slice none 0 0) h := by
  unfold appK
  have e : sCells h sz (.slice none 0 c2) = some [] := by unfold sCells; exact if_pos rfl
  rw [e]
  simp only [slen_slice]
  have ho : 0 < openB := by unfold openB; omega
  exact propext ⟨fun h => (h.1 trivial).2, fun h => ⟨fun _ => ⟨.inl ⟨ho, Nat.le_refl _⟩, h⟩, fun e => absurd rfl e⟩⟩
theorem appK_z3 {h : AH} {sz bytes k2 o2 c2 : Nat} {K : Value → AH → Prop} : appK h sz bytes (.slice none 0 0) (.slice (some ⟨k2, o2, none⟩) 0 c2) K = K (.slice none 0 0) h := by
  unfold appK
  have e : sCells h sz (.slice (some ⟨k2, o2, none⟩) 0 c2) = some [] := by unfold sCells; exact if_pos rfl
  rw [e]
  simp only [slen_slice]
  have ho : 0 < openB := by unfold openB; omega
  exact propext ⟨fun h => (h.1 trivial).2, fun h => ⟨fun _ => ⟨.inl ⟨ho, Nat.le_refl _⟩, h⟩, fun e => absurd rfl e⟩⟩
/-- How a function ends that returns nil, under a name, and a number. -/
theorem end_nil2 {P : Program} {rs : List ResultVar} {l : Fr} {L : List (Option AObj)} {b sz : Nat} {e : Int} (hr : resF P l (Hp b L) rs = some [.slice none 0 0, .int .i64 e]) :
    EndR P rs b [.cells ⟨[], sz, true⟩] (.tuple #[.slice (some ⟨b, 0, none⟩) 0 openB, .int .i64 e]) .ret l [] (Hp b L) := by
  refine ⟨by simp, rfl, _, [b], [(b, .nil)], hr, rfl, by simp, by simp, (fun p hp => by simp at hp; subst hp; exact ⟨Nat.le_refl _, trivial⟩), ?_, ?_, fun i o2 h => .inl ?_⟩
  · show Value.tuple #[_, _] = .tuple ⟨[mvS (xiL [(b, .nil)] b) _ 0 openB, _]⟩
    simp [mvS, xiL]
    rfl
  · refine ⟨⟨by show b < b + 1; omega, ?_⟩, trivial, trivial⟩
    show okS (xiL [(b, .nil)] b) 0 openB
    simp [xiL, okS]
  · match i, h with
    | 0, h =>
      cases h
      exact ⟨by simp [xiL], rfl⟩
/-- Behind a piece: these slots, this memory. -/
def AtF (l2 : Fr) (h2 : AH) : AEx → Fr → List Nat → AH → Prop := fun e l ms h => e = .normal ∧ ms = [] ∧ h = h2 ∧ subF l l2
theorem AtF.mk {l l2 : Fr} {h2 : AH} (hd : subF l l2) : AtF l2 h2 .normal l [] h2 := ⟨rfl, rfl, rfl, hd⟩
theorem ITri.atF {P : Program} {nt b : Nat} {rd : Option Nat} {ic : IC} {l l2 : Fr} {h h2 : AH} {Q : AEx → Fr → List Nat → AH → Prop} (T : ITri P nt rd b ic l [] h (AtF l2 h2)) (q : Q .normal l2 [] h2) : ITri P nt rd b ic l [] h Q := by
  refine ITri.cut (fun _ : Unit => l2) (fun _ => []) (fun _ => h2) (fun _ => True) (T.mono ?_) (fun _ _ => q)
  rintro e l' ms h' ⟨rfl, rfl, rfl, hd⟩
  exact CutQ.mk () trivial (Wk.sub hd)
/-- A sequence of states, each one step behind the one before. -/
theorem seq_ex {σ : Type} (I : Nat → σ → Prop) (R : Nat → σ → σ → Prop) (n : Nat) (s0 : σ) (h0 : I 0 s0) (step : ∀ k s, k < n → I k s → ∃ s', I (k + 1) s' ∧ R k s s') : ∃ f : Nat → σ, f 0 = s0 ∧ (∀ k, k ≤ n → I k (f k)) ∧ ∀ k, k < n → R k (f k) (f (k + 1)) := by
  induction n with
  | zero => exact ⟨fun _ => s0, rfl, fun k hk => by obtain rfl : k = 0 := by omega
                                                    exact h0, fun k hk => by omega⟩
  | succ n ih =>
    obtain ⟨f, f0, f1, f2⟩ := ih fun k s hk hI => step k s (by omega) hI
    obtain ⟨s', i1, i2⟩ := step n (f n) (by omega) (f1 n (Nat.le_refl _))
    refine ⟨fun k => if k ≤ n then f k else s', by show (if 0 ≤ n then f 0 else s') = s0; rw [if_pos (Nat.zero_le _)]; exact f0, fun k hk => ?_, fun k hk => ?_⟩
    · show I k (if k ≤ n then f k else s')
      by_cases h : k ≤ n
      · rw [if_pos h]; exact f1 k h
      · rw [if_neg h]
        obtain rfl : k = n + 1 := by omega
        exact i1
    · show R k (if k ≤ n then f k else s') (if k + 1 ≤ n then f (k + 1) else s')
      by_cases h : k + 1 ≤ n
      · rw [if_pos (by omega), if_pos h]; exact f2 k (by omega)
      · rw [if_pos (by omega), if_neg h]
        obtain rfl : k = n := by omega
        exact i2
theorem low_get {L T : List (Option AObj)} {k : Nat} {x : Option AObj} (h : L[k]? = some x) : (L ++ T)[k]? = some x := by rw [List.getElem?_append_left (List.getElem?_eq_some_iff.1 h).1]; exact h
theorem get_lt {L : List (Option AObj)} {k : Nat} {x : Option AObj} (h : L[k]? = some x) : k < L.length := (List.getElem?_eq_some_iff.1 h).1
end Go.Vm
