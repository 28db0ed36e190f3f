/-
  Chapter 11, by names: a chart's watch takes a value in.
-/
import Derived.Test.YtfmcdbcoljpomaaShopF7
set_option linter.unusedSimpArgs false
set_option linter.unusedVariables false
namespace Go.Proofs.Ytfmcdbcoljpomaa
open Go.RowKit Go.Vm
set_option maxRecDepth 100000
structure WOK (cen : Int) (n : Nat) (rs : List Ru) (m : Nat) (T : Int → Int → List Int) (nm off : Int → Int → Nat) (es : List KV) (cc : Nat) (L : List (Option AObj)) : Prop where
  h5 : L[5]? = some (some (.cells ⟨rows eU rs, 3, true⟩))
  h7 : L[7]? = some (wt7 cen n m)
  h6 : L[6]? = some (some (.map (es.map toE) cc))
  hf : ∀ a b, (findK es a b 0).map (·.2) = if T a b = [] then none else some (.slice (some ⟨nm a b, off a b, none⟩) (T a b).length (openB + off a b))
  hx : ∀ a b, T a b ≠ [] → 8 ≤ nm a b ∧ ∃ X, L[nm a b]? = some (some (.cells ⟨rows eN X, 1, true⟩)) ∧ X.drop (off a b) = T a b
  hi : ∀ a b a' b', T a b ≠ [] → T a' b' ≠ [] → nm a b = nm a' b' → a = a' ∧ b = b'
/-- What the list of a rule and a side becomes. -/
def nxT (of : Int) (t : List Int) (m : Int) : List Int := if of < ((t ++ [m]).length : Int) then (t ++ [m]).drop 1 else t ++ [m]
def upT (T : Int → Int → List Int) (k sd of : Int) (m : Int) : Int → Int → List Int := fun a b => if a = k ∧ b = sd then nxT of (T k sd) m else T a b
def spL (of last : Int) (t : List Int) (m k sd : Int) : List Al := if (t.length : Int) = of ∧ m - last < nth t 0 then [(m, k, sd)] else []
set_option maxHeartbeats 1000000 in
theorem take_round {bb : Nat} {cen v : Int} {n m k N0 kl cc : Nat} {rs : List Ru} {T : Int → Int → List Int} {nm off : Int → Int → Nat} {es : List KV} {L : List (Option AObj)} {lv : Value} {out : List Al}
    (W : WOK cen n rs m T nm off es cc L) (hn : rs.length = n) (hn8 : n ≤ 8) (hk : k < n) (hr : ruOK (nth rs k) = true) (hc : -1000000 ≤ cen ∧ cen ≤ 1000000) (hv : -1000000 ≤ v ∧ v ≤ 1000000) (hm : m ≤ 200) (hT : ∀ a b, (T a b).length ≤ 20)
    (hO : OutD N0 lv L out kl) (hOk : lv ≠ .slice none 0 0 → ∀ a b, T a b ≠ [] → nm a b ≠ kl) (hN0 : 8 ≤ N0) (hNL : N0 ≤ L.length) (hol : out.length ≤ 100) :
    ∃ (L' : List (Option AObj)) (es' : List KV) (cc' : Nat) (nm' off' : Int → Int → Nat) (lv' : Value) (kl' : Nat) (T' : Int → Int → List Int) (al : List Al),
      (if (nth rs k).2.2 < offF cen v then T' = upT T k (sideF cen v) (nth rs k).1 m ∧ al = spL (nth rs k).1 (nth rs k).2.1 (nxT (nth rs k).1 (T k (sideF cen v)) m) m k (sideF cen v) else T' = T ∧ al = []) ∧
      WOK cen n rs m T' nm' off' es' cc' L' ∧ OutD N0 lv' L' (out ++ al) kl' ∧ (lv' ≠ .slice none 0 0 → ∀ a b, T' a b ≠ [] → nm' a b ≠ kl') ∧ L.length ≤ L'.length ∧
      (∀ j, j ≠ 6 → j < L.length → (∀ a b, T a b ≠ [] → nm a b ≠ j) → (lv ≠ .slice none 0 0 → j ≠ kl) → L'[j]? = L[j]?) ∧
      (∀ a b, T' a b ≠ [] → (nm' a b = nm a b ∧ T a b ≠ []) ∨ L.length ≤ nm' a b) ∧ (kl' = kl ∨ L.length ≤ kl') ∧
      ITri Try.prog 103 none bb ir47_18 (frT v lv k n) [] (Hp 3 L) (AtF (frT v lv' k n) (Hp 3 L')) := by
  obtain ⟨h5, h7, h6, hf, hx, hi⟩ := W
  have l5 := get_lt h5
  have l6 := get_lt h6
  have l7 := get_lt h7
  have hkr : k < rs.length := by omega
  obtain ⟨⟨of, last, far⟩, hrk⟩ : ∃ r, nth rs k = r := ⟨_, rfl⟩
  have hg : takeC (rows eU rs) (k * 3) 3 = some [.int .i64 of, .int .i64 last, .int .i64 far] := by rw [takeU hkr, hrk]; rfl
  rw [hrk] at hr ⊢
  obtain ⟨r1, r2, r3, r4, r5⟩ := ruOK_ok hr
  simp only at r1 r2 r3 r4 r5 ⊢
  obtain ⟨sd, hsd⟩ : ∃ sd, sideF cen v = sd := ⟨_, rfl⟩
  obtain ⟨of', hof⟩ : ∃ x, offF cen v = x := ⟨_, rfl⟩
  rw [hsd, hof]
  -- to the side and how far
  have hA : ∀ Q, ITri Try.prog 103 none bb ir47_14 [(0, pt 7), (1, .int .i64 v), (5, lv), (6, .int .i64 k), (7, pt L.length), (8, .int .i64 sd), (9, .int .i64 of'), (16, rl7 n), (17, .int .i64 n), (18, .int .i64 k)] [] (Hp 3 (L ++ [some (.cells ⟨[.int .i64 of, .int .i64 last, .int .i64 far], 1, false⟩)])) (BlkQ 1 Q) →
      ITri Try.prog 103 none bb ir47_18 (frT v lv k n) [] (Hp 3 L) Q := by
    intro Q hQ
    refine ITri.block ?_
    refine ITri.seq ?_
    refine ITri.reg pokT ?_; simp -implicitDefEqProofs (disch := first | decide | exact of_eq_true (eq_true rfl) | omega | assumption) only [h5, hg, apd_get, apd_get0, apd_set0, apd_set, List.length_append, List.append_assoc, Nat.add_assoc, low_get h5,  ↓vcD, vcE, evs, evP, evB, intsOf, fillC, Value.cells, pt, List.append_nil, List.nil_append, List.cons_append, List.length_cons, List.length_nil, List.filter_nil, List.map_nil, ↓List.getElem?_cons_zero, ↓List.getElem?_cons_succ, List.getElem?_cons_zero, List.getElem?_cons_succ, List.set_cons_zero, List.set_cons_succ, Option.join_some, Option.join_none, Option.map_some, List.all_cons, List.all_nil, Value.oneCell', reduceIte, reduceCtorEq, Nat.reduceEqDiff, Nat.reduceAdd, Nat.reduceMul, Nat.reduceLT, Nat.reduceBEq, Nat.reduceLeDiff, Nat.reduceSub, List.size_toArray] -- r4
    refine ITri.seq ?_
    refine ITri.draw pokT ?_; simp -implicitDefEqProofs (disch := first | decide | exact of_eq_true (eq_true rfl) | omega | assumption) only [low_get h7, notNil, true_and,  ↓vcD, vcE, evs, evP, evB, intsOf, fillC, Value.cells, pt, List.append_nil, List.nil_append, List.cons_append, List.length_cons, List.length_nil, List.filter_nil, List.map_nil, ↓List.getElem?_cons_zero, ↓List.getElem?_cons_succ, List.getElem?_cons_zero, List.getElem?_cons_succ, List.set_cons_zero, List.set_cons_succ, Option.join_some, Option.join_none, Option.map_some, List.all_cons, List.all_nil, Value.oneCell', reduceIte, reduceCtorEq, Nat.reduceEqDiff, Nat.reduceAdd, Nat.reduceMul, Nat.reduceLT, Nat.reduceBEq, Nat.reduceLeDiff, Nat.reduceSub, List.size_toArray] -- r5
    refine ITri.seq ?_
    refine ITri.atF (l2 := [(0, pt 7), (1, .int .i64 v), (5, lv), (6, .int .i64 k), (7, pt L.length), (8, .int .i64 sd), (9, .int .i64 of'), (16, rl7 n), (17, .int .i64 n), (18, .int .i64 k)]) (h2 := Hp 3 (L ++ [some (.cells ⟨[.int .i64 of, .int .i64 last, .int .i64 far], 1, false⟩)])) ?_ (by simp only [SeqQ_normal]; exact hQ)
    subst hsd hof
    unfold sideF offF
    refine ITri.seq ?_
    by_cases hs : v - cen < 0
    · rw [if_pos hs, if_pos hs]
      refine ITri.reg pokT ?_; simp -implicitDefEqProofs (disch := first | decide | exact of_eq_true (eq_true rfl) | omega | assumption) only [hs, decide_true,  ↓vcD, vcE, evs, evP, evB, intsOf, fillC, Value.cells, pt, List.append_nil, List.nil_append, List.cons_append, List.length_cons, List.length_nil, List.filter_nil, List.map_nil, ↓List.getElem?_cons_zero, ↓List.getElem?_cons_succ, List.getElem?_cons_zero, List.getElem?_cons_succ, List.set_cons_zero, List.set_cons_succ, Option.join_some, Option.join_none, Option.map_some, List.all_cons, List.all_nil, Value.oneCell', reduceIte, reduceCtorEq, Nat.reduceEqDiff, Nat.reduceAdd, Nat.reduceMul, Nat.reduceLT, Nat.reduceBEq, Nat.reduceLeDiff, Nat.reduceSub, List.size_toArray]
      refine ITri.cond (v := true) rfl (fun _ => ?_) (fun h => by cases h)
      refine ITri.reg pokT ?_; simp -implicitDefEqProofs (disch := first | decide | exact of_eq_true (eq_true rfl) | omega | assumption) only [ ↓vcD, vcE, evs, evP, evB, intsOf, fillC, Value.cells, pt, List.append_nil, List.nil_append, List.cons_append, List.length_cons, List.length_nil, List.filter_nil, List.map_nil, ↓List.getElem?_cons_zero, ↓List.getElem?_cons_succ, List.getElem?_cons_zero, List.getElem?_cons_succ, List.set_cons_zero, List.set_cons_succ, Option.join_some, Option.join_none, Option.map_some, List.all_cons, List.all_nil, Value.oneCell', reduceIte, reduceCtorEq, Nat.reduceEqDiff, Nat.reduceAdd, Nat.reduceMul, Nat.reduceLT, Nat.reduceBEq, Nat.reduceLeDiff, Nat.reduceSub, List.size_toArray]
      exact AtF.mk ⟨rfl, rfl, rfl, rfl, rfl, rfl, rfl, rfl, rfl, rfl, trivial⟩
    · rw [if_neg hs, if_neg hs]
      refine ITri.reg pokT ?_; simp -implicitDefEqProofs (disch := first | decide | exact of_eq_true (eq_true rfl) | omega | assumption) only [hs, decide_false,  ↓vcD, vcE, evs, evP, evB, intsOf, fillC, Value.cells, pt, List.append_nil, List.nil_append, List.cons_append, List.length_cons, List.length_nil, List.filter_nil, List.map_nil, ↓List.getElem?_cons_zero, ↓List.getElem?_cons_succ, List.getElem?_cons_zero, List.getElem?_cons_succ, List.set_cons_zero, List.set_cons_succ, Option.join_some, Option.join_none, Option.map_some, List.all_cons, List.all_nil, Value.oneCell', reduceIte, reduceCtorEq, Nat.reduceEqDiff, Nat.reduceAdd, Nat.reduceMul, Nat.reduceLT, Nat.reduceBEq, Nat.reduceLeDiff, Nat.reduceSub, List.size_toArray]
      refine ITri.cond (v := false) rfl (fun h => by cases h) (fun _ => ?_)
      refine ITri.skip ?_
      exact AtF.mk ⟨rfl, rfl, rfl, rfl, rfl, rfl, rfl, rfl, rfl, rfl, trivial⟩
  by_cases hfar : far < of'
  rotate_left
  · simp only [if_neg hfar]
    refine ⟨L ++ [some (.cells ⟨[.int .i64 of, .int .i64 last, .int .i64 far], 1, false⟩)], es, cc, nm, off, lv, kl, T, [], by simp, ⟨low_get h5, low_get h7, low_get h6, hf, fun a b hab => ?_, hi⟩, ?_, hOk, by simp, fun j _ hj _ _ => List.getElem?_append_left hj, fun a b hab => .inl ⟨rfl, hab⟩, .inl rfl, ?_⟩
    · obtain ⟨x1, X, x2, x3⟩ := hx a b hab
      exact ⟨x1, X, low_get x2, x3⟩
    · rw [List.append_nil]
      rcases hO with h | ⟨q1, q2, q3⟩
      · exact .inl h
      · exact .inr ⟨q1, q2, low_get q3⟩
    · refine hA _ ?_
      have hle : of' ≤ far := by omega
      refine ITri.seq ?_
      refine ITri.seq ?_
      refine ITri.reg pokT ?_; simp -implicitDefEqProofs (disch := first | decide | exact of_eq_true (eq_true rfl) | omega | assumption) only [apd_get, apd_get0, apd_set0, apd_set, List.length_append, List.append_assoc, Nat.add_assoc, hle, decide_true,  ↓vcD, vcE, evs, evP, evB, intsOf, fillC, Value.cells, pt, List.append_nil, List.nil_append, List.cons_append, List.length_cons, List.length_nil, List.filter_nil, List.map_nil, ↓List.getElem?_cons_zero, ↓List.getElem?_cons_succ, List.getElem?_cons_zero, List.getElem?_cons_succ, List.set_cons_zero, List.set_cons_succ, Option.join_some, Option.join_none, Option.map_some, List.all_cons, List.all_nil, Value.oneCell', reduceIte, reduceCtorEq, Nat.reduceEqDiff, Nat.reduceAdd, Nat.reduceMul, Nat.reduceLT, Nat.reduceBEq, Nat.reduceLeDiff, Nat.reduceSub, List.size_toArray]
      refine ITri.cond (v := true) rfl (fun _ => ?_) (fun h => by cases h)
      refine ITri.exit ?_
      exact AtF.mk ⟨rfl, rfl, rfl, rfl, rfl, rfl, trivial⟩
  simp only [if_pos hfar]
  have hle : ¬ of' ≤ far := by omega
  obtain ⟨Tl, hTl⟩ : ∃ t, T k sd = t := ⟨_, rfl⟩
  have hTl20 : Tl.length ≤ 20 := by rw [← hTl]; exact hT _ _
  have hfk := hf k sd
  have hxk := hx k sd
  rw [hTl] at hfk hxk
  -- the list of what is far
  obtain ⟨nr, L1, b1, b2, b3, b4, b5⟩ := piece_B (bb := bb) (cen := cen) (v := v) (lv := lv) (n := n) (m := m) (k := k) (kx := L.length) (ky := L.length + 1) (sd := sd) (cc := cc) (es := es) (nm := nm k sd) (off := off k sd) (Tl := Tl) (L := L ++ [some (.cells ⟨[.int .i64 of, .int .i64 last, .int .i64 far], 1, false⟩), some (.cells ⟨[.int .i64 k, .int .i64 sd], 1, false⟩)]) (low_get h7) (low_get h6) (by rw [apd_get]; rfl) hfk (fun h => by obtain ⟨x1, X, x2, x3⟩ := hxk h; exact ⟨x1, X, low_get x2, x3⟩) hTl20 hm
  simp only [List.length_append, List.length_cons, List.length_nil] at b1 b3 b4
  have hnk : Tl ≠ [] → nm k sd < L.length := fun h => by obtain ⟨x1, X, x2, x3⟩ := hxk h; exact get_lt x2
  have hnk8 : Tl ≠ [] → 8 ≤ nm k sd := fun h => (hxk h).1
  have low1 : ∀ j x, L[j]? = some x → (Tl ≠ [] → j ≠ nm k sd) → L1[j]? = some x := fun j x h1 h2 => by
    rw [b4 j (by have := get_lt h1; omega) h2]
    exact low_get h1
  have hkx1 : L1[L.length]? = some (some (.cells ⟨[.int .i64 of, .int .i64 last, .int .i64 far], 1, false⟩)) := by
    rw [b4 _ (by omega) (fun h => by have := hnk h; omega), apd_get0]
    rfl
  have hky1 : L1[L.length + 1]? = some (some (.cells ⟨[.int .i64 k, .int .i64 sd], 1, false⟩)) := by
    rw [b4 _ (by omega) (fun h => by have := hnk h; omega), apd_get]
    rfl
  have h51 := low1 5 _ h5 (fun h => by have := hnk8 h; omega)
  have h61 := low1 6 _ h6 (fun h => by have := hnk8 h; omega)
  have h71 := low1 7 _ h7 (fun h => by have := hnk8 h; omega)
  -- no more than the rule asks for
  obtain ⟨o, c1, c2⟩ := piece_C (bb := bb) (v := v) (lv := lv) (n := n) (k := k) (kx := L.length) (ky := L.length + 1) (nr := nr) (sd := sd) (of := of) (last := last) (far := far) (L := L1) (Tm := Tl ++ [(m : Int)]) hkx1 r1
  have hnx : nxT of Tl m = (Tl ++ [(m : Int)]).drop o := c1
  have hne : (Tl ++ [(m : Int)]).drop o ≠ [] := by
    rw [← c1]
    split
    · rename_i h
      rw [List.length_append, List.length_singleton] at h
      intro e
      have := congrArg List.length e
      rw [List.length_drop, List.length_append, List.length_singleton, List.length_nil] at this
      omega
    · simp
  -- the map
  obtain ⟨es', cc', d1, d2⟩ := piece_D (bb := bb) (cen := cen) (v := v) (lv := lv) (far := .slice (some ⟨nr, o, none⟩) ((Tl ++ [(m : Int)]).drop o).length (openB + o)) (n := n) (m := m) (k := k) (kx := L.length) (ky := L.length + 1) (sd := sd) (cc := cc) (es := es) (L := L1) h71 h61 hky1
  have low2 : ∀ j x, j ≠ 6 → L1[j]? = some x → (L1.set 6 (some (.map (es'.map toE) cc')))[j]? = some x := fun j x h1 h2 => by rw [List.getElem?_set_ne (by omega)]; exact h2
  have hset6 : (L1.set 6 (some (.map (es'.map toE) cc')))[6]? = some (some (.map (es'.map toE) cc')) := by
    rw [List.getElem?_set_self (by have := get_lt h61; omega)]
  -- the alarm
  have hO2 : OutD N0 lv (L1.set 6 (some (.map (es'.map toE) cc'))) out kl := by
    rcases hO with h | ⟨q1, q2, q3⟩
    · exact .inl h
    · refine .inr ⟨q1, q2, low2 _ _ (by omega) (low1 _ _ q3 fun h => ?_)⟩
      have := hOk (by rw [q2]; simp) k sd (by rw [hTl]; exact h)
      exact fun e => this e.symm
  obtain ⟨lv', kl', L3, e1, e2, e3, e4, e5⟩ := piece_E (bb := bb) (cen := cen) (v := v) (lv := lv) (n := n) (m := m) (k := k) (kx := L.length) (nr := nr) (o := o) (N0 := N0) (kl := kl) (sd := sd) (of := of) (last := last) (far := far) (L := L1.set 6 (some (.map (es'.map toE) cc'))) (X := Tl ++ [(m : Int)]) (out := out) (low2 _ _ (by omega) h71) (low2 _ _ (by omega) hkx1) (low2 _ _ (by omega) b2) hne hm ⟨by omega, r3⟩ hO2 (by omega) (by rw [List.length_set]; omega) hol
  rw [List.length_set] at e1 e2 e3
  have hklN : lv ≠ .slice none 0 0 → N0 ≤ kl := fun h => by
    rcases hO with q | q
    · exact absurd q.1 h
    · exact q.1
  have low3 : ∀ j x, j ≠ 6 → L1[j]? = some x → (lv ≠ .slice none 0 0 → j ≠ kl) → L3[j]? = some x := fun j x h1 h2 h3 => by
    rw [e2 j (get_lt h2) h3]
    exact low2 j x h1 h2
  have hL1 : ∀ j x, j ≠ 6 → L[j]? = some x → (∀ a b, T a b ≠ [] → nm a b ≠ j) → L1[j]? = some x := fun j x _ h1 h2 => low1 j x h1 fun h e => h2 k sd (by rw [hTl]; exact h) e.symm
  refine ⟨L3, es', cc', fun a b => if a = (k : Int) ∧ b = sd then nr else nm a b, fun a b => if a = (k : Int) ∧ b = sd then o else off a b, lv', kl', upT T k sd of m, spL of last (nxT of (T k sd) m) m k sd, by simp, ⟨?_, ?_, ?_, ?_, ?_, ?_⟩, ?_, ?_, by omega, ?_, ?_, ?_, ?_⟩
  · exact low3 _ _ (by omega) h51 (fun h => by have := hklN h; omega)
  · exact low3 _ _ (by omega) h71 (fun h => by have := hklN h; omega)
  · rw [e2 6 (get_lt h61) (fun h => by have := hklN h; omega), hset6]
  · intro a b
    rw [d1]
    unfold upT
    by_cases hab : a = (k : Int) ∧ b = sd
    · simp only [if_pos hab, hTl, hnx, if_neg hne]
    · simp only [if_neg hab]
      exact hf a b
  · intro a b hab
    unfold upT at hab ⊢
    by_cases h : a = (k : Int) ∧ b = sd
    · simp only [if_pos h, hTl, hnx] at hab ⊢
      refine ⟨by omega, Tl ++ [(m : Int)], low3 _ _ (by omega) b2 (fun h => ?_), rfl⟩
      rcases hO with q | ⟨q1, q2, q3⟩
      · exact absurd q.1 h
      · have := get_lt q3; omega
    · simp only [if_neg h] at hab ⊢
      obtain ⟨x1, X, x2, x3⟩ := hx a b hab
      refine ⟨x1, X, low3 _ _ (by omega) (low1 _ _ x2 fun hT2 e => h (hi a b k sd hab (by rw [hTl]; exact hT2) e)) (fun hl => hOk hl a b hab), x3⟩
  · intro a b a' b' h1 h2 h3
    unfold upT at h1 h2
    by_cases g1 : a = (k : Int) ∧ b = sd
    · by_cases g2 : a' = (k : Int) ∧ b' = sd
      · exact ⟨by rw [g1.1, g2.1], by rw [g1.2, g2.2]⟩
      · simp only [if_pos g1, if_neg g2] at h1 h2 h3
        obtain ⟨x1, X, x2, x3⟩ := hx a' b' h2
        have := get_lt x2
        omega
    · by_cases g2 : a' = (k : Int) ∧ b' = sd
      · simp only [if_neg g1, if_pos g2] at h1 h2 h3
        obtain ⟨x1, X, x2, x3⟩ := hx a b h1
        have := get_lt x2
        omega
      · simp only [if_neg g1, if_neg g2] at h1 h2 h3
        exact hi a b a' b' h1 h2 h3
  · rw [hTl, hnx]
    exact e4
  · intro hl a b hab
    unfold upT at hab
    have hnrl := get_lt b2
    have hab2 : ∀ a b, T a b ≠ [] → nm a b < L.length := fun a b h => by obtain ⟨x1, X, x2, x3⟩ := hx a b h; exact get_lt x2
    rcases e3 with ⟨e, el⟩ | e
    · rw [el] at hl
      have hkL : kl < L.length := by
        rcases hO with q | ⟨q1, q2, q3⟩
        · exact absurd q.1 hl
        · exact get_lt q3
      by_cases h : a = (k : Int) ∧ b = sd
      · simp only [if_pos h]
        omega
      · simp only [if_neg h] at hab ⊢
        rw [e]
        exact hOk hl a b hab
    · by_cases h : a = (k : Int) ∧ b = sd
      · simp only [if_pos h]
        omega
      · simp only [if_neg h] at hab ⊢
        have := hab2 a b hab
        omega
  · intro j j8 hj h1 h2
    have hjx : L[j]? = some L[j] := List.getElem?_eq_getElem hj
    rw [hjx]
    exact low3 _ _ j8 (hL1 j _ j8 hjx h1) h2
  · intro a b hab
    unfold upT at hab
    by_cases h : a = (k : Int) ∧ b = sd
    · simp only [if_pos h]
      exact .inr (by omega)
    · simp only [if_neg h] at hab
      exact .inl ⟨if_neg h, hab⟩
  · rcases e3 with e | e
    · exact .inl e.1
    · exact .inr (by omega)
  · refine hA _ ?_
    refine ITri.seq ?_
    refine ITri.seq ?_
    refine ITri.reg pokT ?_; simp -implicitDefEqProofs (disch := first | decide | exact of_eq_true (eq_true rfl) | omega | assumption) only [apd_get, apd_get0, apd_set0, apd_set, List.length_append, List.append_assoc, Nat.add_assoc, hle, decide_false,  ↓vcD, vcE, evs, evP, evB, intsOf, fillC, Value.cells, pt, List.append_nil, List.nil_append, List.cons_append, List.length_cons, List.length_nil, List.filter_nil, List.map_nil, ↓List.getElem?_cons_zero, ↓List.getElem?_cons_succ, List.getElem?_cons_zero, List.getElem?_cons_succ, List.set_cons_zero, List.set_cons_succ, Option.join_some, Option.join_none, Option.map_some, List.all_cons, List.all_nil, Value.oneCell', reduceIte, reduceCtorEq, Nat.reduceEqDiff, Nat.reduceAdd, Nat.reduceMul, Nat.reduceLT, Nat.reduceBEq, Nat.reduceLeDiff, Nat.reduceSub, List.size_toArray]
    refine ITri.cond (v := false) rfl (fun h => by cases h) (fun _ => ?_)
    refine ITri.skip ?_
    simp only [SeqQ_normal]
    refine ITri.seq ?_
    refine ITri.reg pokT ?_; simp -implicitDefEqProofs (disch := first | decide | exact of_eq_true (eq_true rfl) | omega | assumption) only [apd_get, apd_get0, apd_set0, apd_set, List.length_append, List.append_assoc, Nat.add_assoc,  ↓vcD, vcE, evs, evP, evB, intsOf, fillC, Value.cells, pt, List.append_nil, List.nil_append, List.cons_append, List.length_cons, List.length_nil, List.filter_nil, List.map_nil, ↓List.getElem?_cons_zero, ↓List.getElem?_cons_succ, List.getElem?_cons_zero, List.getElem?_cons_succ, List.set_cons_zero, List.set_cons_succ, Option.join_some, Option.join_none, Option.map_some, List.all_cons, List.all_nil, Value.oneCell', reduceIte, reduceCtorEq, Nat.reduceEqDiff, Nat.reduceAdd, Nat.reduceMul, Nat.reduceLT, Nat.reduceBEq, Nat.reduceLeDiff, Nat.reduceSub, List.size_toArray] -- r9
    refine ITri.seq ?_
    refine ITri.atF b5 ?_
    simp only [SeqQ_normal]
    refine ITri.seq ?_
    have el : (Tl ++ [(m : Int)]).length = Tl.length + 1 := by rw [List.length_append, List.length_singleton]
    rw [el] at c2
    refine ITri.atF c2 ?_
    simp only [SeqQ_normal]
    refine ITri.seq ?_
    refine ITri.atF d2 ?_
    simp only [SeqQ_normal]
    refine ITri.atF e5 ?_
    exact AtF.mk ⟨rfl, rfl, rfl, rfl, rfl, rfl, trivial⟩
end Go.Proofs.Ytfmcdbcoljpomaa
