/-
  Chapter 11, by names: (*watch).take.
-/
import Derived.Test.YtfmcdbcoljpomaaShopF8
set_option linter.unusedSimpArgs false
set_option linter.unusedVariables false
namespace Go.Proofs.Ytfmcdbcoljpomaa
open Go.RowKit Go.Vm
set_option maxRecDepth 100000
/-- The lists of a chart's watch behind some values. -/
def TF (c : Int) (rs : List Ru) (vs : List Int) (a b : Int) : List Int := if 0 ≤ a ∧ a.toNat < rs.length ∧ (b = 1 ∨ b = -1) then lastN (nth rs a.toNat).1 (flF c (nth rs a.toNat) b vs) else []
theorem TF_len {c : Int} {rs : List Ru} {vs : List Int} (hr : ∀ r ∈ rs, ruOK r = true) (a b : Int) : (TF c rs vs a b).length ≤ 20 := by
  unfold TF
  split
  · rename_i h
    obtain ⟨r1, r2, r3, _⟩ := ruOK_ok (hr _ (nth_mem h.2.1))
    have := lastN_len (l := flF c (nth rs a.toNat) b vs) (show 0 ≤ (nth rs a.toNat).1 by omega)
    omega
  · simp
theorem TF_nil (c : Int) (rs : List Ru) (a b : Int) : TF c rs [] a b = [] := by
  unfold TF
  split
  · unfold flF lastN; simp
  · rfl
theorem far_other {c : Int} {r : Ru} {b v : Int} (hr : 0 ≤ r.2.2) (hb : b = 1 ∨ b = -1) (h : b ≠ sideF c v ∨ ¬ r.2.2 < offF c v) : farB c r b v = false := by
  rcases h with h | h
  · unfold sideF at h
    unfold farB
    split at h
    · obtain rfl : b = 1 := by omega
      exact decide_eq_false (by omega)
    · obtain rfl : b = -1 := by omega
      exact decide_eq_false (by omega)
  · by_cases hs : b = sideF c v
    · rw [hs, off_far]
      exact decide_eq_false h
    · unfold sideF at hs
      unfold farB
      split at hs
      · obtain rfl : b = 1 := by omega
        exact decide_eq_false (by omega)
      · obtain rfl : b = -1 := by omega
        exact decide_eq_false (by omega)
theorem side_pm (c v : Int) : sideF c v = 1 ∨ sideF c v = -1 := by
  unfold sideF
  split <;> simp
theorem TF_in {c : Int} {rs : List Ru} {vs : List Int} {k : Nat} {b : Int} (hk : k < rs.length) (hb : b = 1 ∨ b = -1) : TF c rs vs k b = lastN (nth rs k).1 (flF c (nth rs k) b vs) := by
  unfold TF
  rw [if_pos ⟨Int.natCast_nonneg k, by simpa using hk, hb⟩]
  rfl
theorem TF_out {c : Int} {rs : List Ru} {vs : List Int} {a b : Int} (hb : ¬ (b = 1 ∨ b = -1)) : TF c rs vs a b = [] := by
  unfold TF
  rw [if_neg fun h => hb h.2.2]
/-- One value more, for one rule. -/
theorem TF_step {c v : Int} {rs : List Ru} {vs : List Int} {k : Nat} (hk : k < rs.length) (hr : ruOK (nth rs k) = true) (b : Int) :
    TF c rs (vs ++ [v]) k b = if b = sideF c v ∧ (nth rs k).2.2 < offF c v then nxT (nth rs k).1 (TF c rs vs k (sideF c v)) vs.length else TF c rs vs k b := by
  obtain ⟨r1, r2, r3, r4, r5⟩ := ruOK_ok hr
  by_cases hb : b = 1 ∨ b = -1
  · rw [TF_in hk hb, TF_in hk hb, TF_in hk (side_pm c v), flF_snoc]
    by_cases h : b = sideF c v ∧ (nth rs k).2.2 < offF c v
    · rw [if_pos h, h.1, off_far, decide_eq_true h.2, if_pos rfl, lastN_snoc r1]
      unfold nxT
      rw [List.length_append, List.length_singleton]
      rfl
    · rw [if_neg h, far_other r4 hb (by by_cases e : b = sideF c v; exact .inr fun e2 => h ⟨e, e2⟩; exact .inl e), if_neg (by decide), List.append_nil]
  · have hne : ¬ (b = sideF c v ∧ (nth rs k).2.2 < offF c v) := fun h => hb (by rw [h.1]; exact side_pm c v)
    rw [if_neg hne, TF_out hb, TF_out hb]
theorem at1_T {c v : Int} {rs : List Ru} {vs : List Int} {k : Nat} (hk : k < rs.length) (hr : ruOK (nth rs k) = true) :
    at1 c (nth rs k) k (vs ++ [v]) = if (nth rs k).2.2 < offF c v then spL (nth rs k).1 (nth rs k).2.1 (nxT (nth rs k).1 (TF c rs vs k (sideF c v)) vs.length) vs.length k (sideF c v) else [] := by
  rw [at1_snoc hr]
  by_cases h : (nth rs k).2.2 < offF c v
  · have := TF_step (c := c) (v := v) (vs := vs) hk hr (sideF c v)
    rw [if_pos ⟨rfl, h⟩, TF_in hk (side_pm c v)] at this
    rw [if_pos h, if_pos h, ← this]
    rfl
  · rw [if_neg h, if_neg h]
structure TS where
  L : List (Option AObj)
  es : List KV
  cc : Nat
  nm : Int → Int → Nat
  off : Int → Int → Nat
  lv : Value
  kl : Nat
  T : Int → Int → List Int
/-- What holds ahead of rule k. -/
structure TI (cen v : Int) (n : Nat) (rs : List Ru) (vs : List Int) (L0 : List (Option AObj)) (nm0 : Int → Int → Nat) (k : Nat) (s : TS) : Prop where
  w : WOK cen n rs vs.length s.T s.nm s.off s.es s.cc s.L
  t : ∀ a b, s.T a b = if a < (k : Int) then TF cen rs (vs ++ [v]) a b else TF cen rs vs a b
  o : OutD L0.length s.lv s.L (atF cen rs (vs ++ [v]) k) s.kl
  ok : s.lv ≠ .slice none 0 0 → ∀ a b, s.T a b ≠ [] → s.nm a b ≠ s.kl
  len : L0.length ≤ s.L.length
  keep : ∀ j, j ≠ 6 → j < L0.length → (∀ a b, TF cen rs vs a b ≠ [] → nm0 a b ≠ j) → s.L[j]? = L0[j]? ∧ ∀ a b, s.T a b ≠ [] → s.nm a b ≠ j
theorem take_step {bb : Nat} {cen v : Int} {n : Nat} {rs : List Ru} {vs : List Int} {L0 : List (Option AObj)} {nm0 : Int → Int → Nat} (hn : rs.length = n) (hn8 : n ≤ 8) (hr : ∀ r ∈ rs, ruOK r = true) (hc : -1000000 ≤ cen ∧ cen ≤ 1000000) (hv : -1000000 ≤ v ∧ v ≤ 1000000) (hm : vs.length ≤ 200) (hL0 : 8 ≤ L0.length) (k : Nat) (s : TS) (hk : k < n) (I : TI cen v n rs vs L0 nm0 k s) :
    ∃ s', TI cen v n rs vs L0 nm0 (k + 1) s' ∧ ITri Try.prog 103 none bb ir47_18 (frT v s.lv k n) [] (Hp 3 s.L) (AtF (frT v s'.lv k n) (Hp 3 s'.L)) := by
  have hkr : k < rs.length := by omega
  have hrk := hr _ (nth_mem hkr)
  have hal := atF_len cen rs (vs ++ [v]) k
  have hT20 : ∀ a b, (s.T a b).length ≤ 20 := fun a b => by rw [I.t]; split <;> exact TF_len hr a b
  obtain ⟨L', es', cc', nm', off', lv', kl', T', al, q1, q2, q3, q4, q5, q6, q7, q8, q9⟩ := take_round (bb := bb) I.w hn hn8 hk hrk hc hv hm hT20 I.o I.ok hL0 I.len (by omega)
  have htk : ∀ b, s.T k b = TF cen rs vs k b := fun b => by rw [I.t, if_neg (by omega)]
  have hT' : ∀ a b, T' a b = if a < ((k + 1 : Nat) : Int) then TF cen rs (vs ++ [v]) a b else TF cen rs vs a b := by
    intro a b
    have hst := TF_step (c := cen) (v := v) (vs := vs) hkr hrk b
    by_cases hf : (nth rs k).2.2 < offF cen v
    · rw [if_pos hf] at q1
      rw [q1.1]
      unfold upT
      by_cases ha : a = k
      · subst ha
        rw [if_pos (show (k : Int) < ((k + 1 : Nat) : Int) by omega), hst]
        by_cases hb : b = sideF cen v
        · rw [if_pos ⟨rfl, hb⟩, if_pos ⟨hb, hf⟩, htk]
        · rw [if_neg (fun e => hb e.2), if_neg (fun e => hb e.1), htk]
      · rw [if_neg (fun e => ha e.1), I.t]
        by_cases h2 : a < (k : Int)
        · rw [if_pos h2, if_pos (by omega)]
        · rw [if_neg h2, if_neg (by omega)]
    · rw [if_neg hf] at q1
      rw [q1.1]
      by_cases ha : a = k
      · subst ha
        rw [if_pos (show (k : Int) < ((k + 1 : Nat) : Int) by omega), hst, if_neg (fun e => hf e.2), htk]
      · rw [I.t]
        by_cases h2 : a < (k : Int)
        · rw [if_pos h2, if_pos (by omega)]
        · rw [if_neg h2, if_neg (by omega)]
  have hout : atF cen rs (vs ++ [v]) k ++ al = atF cen rs (vs ++ [v]) (k + 1) := by
    rw [atF, at1_T hkr hrk]
    by_cases hf : (nth rs k).2.2 < offF cen v
    · rw [if_pos hf] at q1
      rw [if_pos hf, q1.2, htk]
    · rw [if_neg hf] at q1
      rw [if_neg hf, q1.2]
  rw [hout] at q3
  refine ⟨⟨L', es', cc', nm', off', lv', kl', T'⟩, ⟨q2, hT', q3, q4, by have := I.len; show L0.length ≤ L'.length; omega, fun j j6 hj h => ?_⟩, q9⟩
  obtain ⟨k1, k2⟩ := I.keep j j6 hj h
  have hlen := I.len
  refine ⟨?_, fun a b hab => ?_⟩
  · show L'[j]? = L0[j]?
    rw [q6 j j6 (by omega) k2 (fun hl => ?_), k1]
    rcases I.o with e | e
    · exact absurd e.1 hl
    · have := e.1; omega
  · rcases q7 a b hab with ⟨e1, e2⟩ | e
    · show nm' a b ≠ j
      rw [e1]
      exact k2 a b e2
    · show nm' a b ≠ j
      omega
theorem take_x {cen v : Int} {n cc : Nat} {rs : List Ru} {vs : List Int} {nm off : Int → Int → Nat} {es : List KV} {L : List (Option AObj)} (hn : rs.length = n) (hn8 : n ≤ 8) (hr : ∀ r ∈ rs, ruOK r = true) (hc : -1000000 ≤ cen ∧ cen ≤ 1000000) (hv : -1000000 ≤ v ∧ v ≤ 1000000) (hm : vs.length ≤ 200) (hL0 : 8 ≤ L.length) (W : WOK cen n rs vs.length (TF cen rs vs) nm off es cc L) :
    ∃ (L' : List (Option AObj)) (es' : List KV) (cc' : Nat) (nm' off' : Int → Int → Nat) (lv : Value) (kl : Nat),
      Fc Try.prog 47 [pt 7, .int .i64 v] (Hp 3 L) lv (Hp 3 L') ∧ WOK cen n rs (vs ++ [v]).length (TF cen rs (vs ++ [v])) nm' off' es' cc' L' ∧ OutD L.length lv L' (atF cen rs (vs ++ [v]) n) kl ∧
      (lv ≠ .slice none 0 0 → ∀ a b, TF cen rs (vs ++ [v]) a b ≠ [] → nm' a b ≠ kl) ∧ L.length ≤ L'.length ∧
      (∀ j, j ≠ 6 → j ≠ 7 → j < L.length → (∀ a b, TF cen rs vs a b ≠ [] → nm a b ≠ j) → L'[j]? = L[j]? ∧ ∀ a b, TF cen rs (vs ++ [v]) a b ≠ [] → nm' a b ≠ j) := by
  have h7 := W.h7
  have h5 := W.h5
  have l7 := get_lt h7
  obtain ⟨f, f0, f1, f2⟩ := seq_ex (TI cen v n rs vs L nm) (fun k s s' => ITri Try.prog 103 none L.length ir47_18 (frT v s.lv k n) [] (Hp 3 s.L) (AtF (frT v s'.lv k n) (Hp 3 s'.L))) n ⟨L, es, cc, nm, off, .slice none 0 0, 0, TF cen rs vs⟩ ⟨W, fun a b => by
    show TF cen rs vs a b = if a < ((0 : Nat) : Int) then TF cen rs (vs ++ [v]) a b else TF cen rs vs a b
    by_cases h : a < ((0 : Nat) : Int)
    · rw [if_pos h]
      unfold TF
      rw [if_neg (by omega), if_neg (by omega)]
    · rw [if_neg h], .inl ⟨rfl, rfl⟩, fun h => absurd rfl h, Nat.le_refl _, fun j _ _ h => ⟨rfl, h⟩⟩ (take_step hn hn8 hr hc hv hm hL0)
  have In := f1 n (Nat.le_refl _)
  have hTn : ∀ a b, (f n).T a b = TF cen rs (vs ++ [v]) a b := fun a b => by
    rw [In.t]
    by_cases h : a < (n : Int)
    · rw [if_pos h]
    · rw [if_neg h]
      unfold TF
      rw [if_neg (by omega), if_neg (by omega)]
  have hTe : (f n).T = TF cen rs (vs ++ [v]) := by funext a b; exact hTn a b
  obtain ⟨w5, w7, w6, wf, wx, wi⟩ := In.w
  rw [hTe] at wf wx wi
  have hlen := In.len
  have hok := In.ok
  have hkeep := In.keep
  rw [hTe] at hok hkeep
  have hl1 : (vs ++ [v]).length = vs.length + 1 := by rw [List.length_append, List.length_singleton]
  have g7 : ∀ j x, j ≠ 7 → (f n).L[j]? = x → ((f n).L.set 7 (wt7 cen n (vs.length + 1)))[j]? = x := fun j x h1 h2 => by rw [List.getElem?_set_ne (by omega)]; exact h2
  have htake : ((f n).L.set 7 (wt7 cen n (vs.length + 1))).take 3 = L.take 3 := by
    apply List.ext_getElem?
    intro j
    rw [List.getElem?_take, List.getElem?_take]
    split
    · rw [g7 j _ (by omega) rfl]
      exact (hkeep j (by omega) (by omega) fun a b hab => by have := (W.hx a b hab).1; omega).1
    · rfl
  refine ⟨(f n).L.set 7 (wt7 cen n (vs.length + 1)), (f n).es, (f n).cc, (f n).nm, (f n).off, (f n).lv, (f n).kl, ?_, ⟨g7 _ _ (by omega) w5, ?_, g7 _ _ (by omega) w6, wf, fun a b hab => ?_, wi⟩, ?_, hok, by rw [List.length_set]; exact hlen, fun j j6 j7 hj h => ?_⟩
  · refine Fc.introX fn47 (by simp) (fun _ => grow_hq (by rw [List.length_set]; exact hlen) htake) ?_
    simp only [argF]
    refine ITri.seq ?_
    refine ITri.reg pokT ?_; simp -implicitDefEqProofs (disch := first | decide | exact of_eq_true (eq_true rfl) | omega | assumption) only [ ↓vcD, vcE, evs, evP, evB, intsOf, fillC, Value.cells, pt, List.append_nil, List.nil_append, List.cons_append, List.length_cons, List.length_nil, List.filter_nil, List.map_nil, ↓List.getElem?_cons_zero, ↓List.getElem?_cons_succ, List.getElem?_cons_zero, List.getElem?_cons_succ, List.set_cons_zero, List.set_cons_succ, Option.join_some, Option.join_none, Option.map_some, List.all_cons, List.all_nil, Value.oneCell', reduceIte, reduceCtorEq, Nat.reduceEqDiff, Nat.reduceAdd, Nat.reduceMul, Nat.reduceLT, Nat.reduceBEq, Nat.reduceLeDiff, Nat.reduceSub, List.size_toArray] -- r0
    refine ITri.seq ?_
    refine ITri.reg pokT ?_; simp -implicitDefEqProofs (disch := first | decide | exact of_eq_true (eq_true rfl) | omega | assumption) only [ ↓vcD, vcE, evs, evP, evB, intsOf, fillC, Value.cells, pt, List.append_nil, List.nil_append, List.cons_append, List.length_cons, List.length_nil, List.filter_nil, List.map_nil, ↓List.getElem?_cons_zero, ↓List.getElem?_cons_succ, List.getElem?_cons_zero, List.getElem?_cons_succ, List.set_cons_zero, List.set_cons_succ, Option.join_some, Option.join_none, Option.map_some, List.all_cons, List.all_nil, Value.oneCell', reduceIte, reduceCtorEq, Nat.reduceEqDiff, Nat.reduceAdd, Nat.reduceMul, Nat.reduceLT, Nat.reduceBEq, Nat.reduceLeDiff, Nat.reduceSub, List.size_toArray] -- r1
    refine ITri.seq ?_
    refine ITri.seq ?_
    refine ITri.reg pokT ?_; simp -implicitDefEqProofs (disch := first | decide | exact of_eq_true (eq_true rfl) | omega | assumption) only [h7, notNil, true_and,  ↓vcD, vcE, evs, evP, evB, intsOf, fillC, Value.cells, pt, List.append_nil, List.nil_append, List.cons_append, List.length_cons, List.length_nil, List.filter_nil, List.map_nil, ↓List.getElem?_cons_zero, ↓List.getElem?_cons_succ, List.getElem?_cons_zero, List.getElem?_cons_succ, List.set_cons_zero, List.set_cons_succ, Option.join_some, Option.join_none, Option.map_some, List.all_cons, List.all_nil, Value.oneCell', reduceIte, reduceCtorEq, Nat.reduceEqDiff, Nat.reduceAdd, Nat.reduceMul, Nat.reduceLT, Nat.reduceBEq, Nat.reduceLeDiff, Nat.reduceSub, List.size_toArray] -- r2
    refine ITri.block ?_
    refine ITri.loop (fun k : Nat => frT v (f k).lv k n) (fun _ => []) (fun k => Hp 3 (f k).L) (fun k => k ≤ n) (fun k => n - k) 0 (Nat.zero_le _) (by rw [f0]; exact Wk.sub ⟨rfl, rfl, rfl, rfl, rfl, rfl, trivial⟩) fun k hk => ?_
    refine ITri.seq ?_
    refine ITri.reg pokT ?_; simp -implicitDefEqProofs (disch := first | decide | exact of_eq_true (eq_true rfl) | omega | assumption) only [ ↓vcD, vcE, evs, evP, evB, intsOf, fillC, Value.cells, pt, List.append_nil, List.nil_append, List.cons_append, List.length_cons, List.length_nil, List.filter_nil, List.map_nil, ↓List.getElem?_cons_zero, ↓List.getElem?_cons_succ, List.getElem?_cons_zero, List.getElem?_cons_succ, List.set_cons_zero, List.set_cons_succ, Option.join_some, Option.join_none, Option.map_some, List.all_cons, List.all_nil, Value.oneCell', reduceIte, reduceCtorEq, Nat.reduceEqDiff, Nat.reduceAdd, Nat.reduceMul, Nat.reduceLT, Nat.reduceBEq, Nat.reduceLeDiff, Nat.reduceSub, List.size_toArray] -- r3
    refine ITri.seq ?_
    refine ITri.condD (by rfl) (fun h1 => ?_) (fun h1 => ?_)
    · have hkn : k < n := by omega
      refine ITri.skip ?_; simp only [SeqQ_normal, BlkQ_normal]
      refine ITri.seq ?_
      refine ITri.weak (l' := frT v (f k).lv k n) (Wk.sub ⟨rfl, rfl, rfl, rfl, rfl, rfl, trivial⟩) ?_
      refine ITri.atF (f2 k hkn) ?_
      try simp -implicitDefEqProofs (disch := first | decide | exact of_eq_true (eq_true rfl) | omega | assumption) only [ ↓vcD, vcE, evs, evP, evB, intsOf, fillC, Value.cells, pt, List.append_nil, List.nil_append, List.cons_append, List.length_cons, List.length_nil, List.filter_nil, List.map_nil, ↓List.getElem?_cons_zero, ↓List.getElem?_cons_succ, List.getElem?_cons_zero, List.getElem?_cons_succ, List.set_cons_zero, List.set_cons_succ, Option.join_some, Option.join_none, Option.map_some, List.all_cons, List.all_nil, Value.oneCell', reduceIte, reduceCtorEq, Nat.reduceEqDiff, Nat.reduceAdd, Nat.reduceMul, Nat.reduceLT, Nat.reduceBEq, Nat.reduceLeDiff, Nat.reduceSub, List.size_toArray]
      refine ITri.reg pokT ?_; simp -implicitDefEqProofs (disch := first | decide | exact of_eq_true (eq_true rfl) | omega | assumption) only [ ↓vcD, vcE, evs, evP, evB, intsOf, fillC, Value.cells, pt, List.append_nil, List.nil_append, List.cons_append, List.length_cons, List.length_nil, List.filter_nil, List.map_nil, ↓List.getElem?_cons_zero, ↓List.getElem?_cons_succ, List.getElem?_cons_zero, List.getElem?_cons_succ, List.set_cons_zero, List.set_cons_succ, Option.join_some, Option.join_none, Option.map_some, List.all_cons, List.all_nil, Value.oneCell', reduceIte, reduceCtorEq, Nat.reduceEqDiff, Nat.reduceAdd, Nat.reduceMul, Nat.reduceLT, Nat.reduceBEq, Nat.reduceLeDiff, Nat.reduceSub, List.size_toArray] -- r16
      exact LoopQ.next (k + 1) (by omega) (by omega) (Wk.sub ⟨rfl, rfl, rfl, rfl, rfl, rfl, trivial⟩)
    refine ITri.exit ?_; try simp -implicitDefEqProofs (disch := first | decide | exact of_eq_true (eq_true rfl) | omega | assumption) only [ ↓vcD, vcE, evs, evP, evB, intsOf, fillC, Value.cells, pt, List.append_nil, List.nil_append, List.cons_append, List.length_cons, List.length_nil, List.filter_nil, List.map_nil, ↓List.getElem?_cons_zero, ↓List.getElem?_cons_succ, List.getElem?_cons_zero, List.getElem?_cons_succ, List.set_cons_zero, List.set_cons_succ, Option.join_some, Option.join_none, Option.map_some, List.all_cons, List.all_nil, Value.oneCell', reduceIte, reduceCtorEq, Nat.reduceEqDiff, Nat.reduceAdd, Nat.reduceMul, Nat.reduceLT, Nat.reduceBEq, Nat.reduceLeDiff, Nat.reduceSub, List.size_toArray]
    obtain rfl : n = k := by omega
    refine ITri.seq ?_
    refine ITri.reg pokT ?_; simp -implicitDefEqProofs (disch := first | decide | exact of_eq_true (eq_true rfl) | omega | assumption) only [w7, notNil, true_and,  ↓vcD, vcE, evs, evP, evB, intsOf, fillC, Value.cells, pt, List.append_nil, List.nil_append, List.cons_append, List.length_cons, List.length_nil, List.filter_nil, List.map_nil, ↓List.getElem?_cons_zero, ↓List.getElem?_cons_succ, List.getElem?_cons_zero, List.getElem?_cons_succ, List.set_cons_zero, List.set_cons_succ, Option.join_some, Option.join_none, Option.map_some, List.all_cons, List.all_nil, Value.oneCell', reduceIte, reduceCtorEq, Nat.reduceEqDiff, Nat.reduceAdd, Nat.reduceMul, Nat.reduceLT, Nat.reduceBEq, Nat.reduceLeDiff, Nat.reduceSub, List.size_toArray] -- r17
    refine ITri.seq ?_
    refine ITri.reg pokT ?_; simp -implicitDefEqProofs (disch := first | decide | exact of_eq_true (eq_true rfl) | omega | assumption) only [ ↓vcD, vcE, evs, evP, evB, intsOf, fillC, Value.cells, pt, List.append_nil, List.nil_append, List.cons_append, List.length_cons, List.length_nil, List.filter_nil, List.map_nil, ↓List.getElem?_cons_zero, ↓List.getElem?_cons_succ, List.getElem?_cons_zero, List.getElem?_cons_succ, List.set_cons_zero, List.set_cons_succ, Option.join_some, Option.join_none, Option.map_some, List.all_cons, List.all_nil, Value.oneCell', reduceIte, reduceCtorEq, Nat.reduceEqDiff, Nat.reduceAdd, Nat.reduceMul, Nat.reduceLT, Nat.reduceBEq, Nat.reduceLeDiff, Nat.reduceSub, List.size_toArray] -- r18
    refine ITri.ret ?_
    exact EndX.mk (vs := [(f n).lv]) (by simp) (by rfl) (by rfl) (by rfl)
  · rw [List.getElem?_set_self (get_lt w7), hl1]
  · obtain ⟨x1, X, x2, x3⟩ := wx a b hab
    exact ⟨x1, X, g7 _ _ (by omega) x2, x3⟩
  · rcases In.o with e | ⟨e1, e2, e3⟩
    · exact .inl e
    · exact .inr ⟨e1, e2, g7 _ _ (by omega) e3⟩
  · obtain ⟨k1, k2⟩ := hkeep j j6 hj h
    exact ⟨by rw [g7 j _ j7 rfl]; exact k1, k2⟩
end Go.Proofs.Ytfmcdbcoljpomaa
