/-
  Chapter 11, by names: shop.Alarms, as a whole.
-/
import Derived.Test.YtfmcdbcoljpomaaShopFA
set_option linter.unusedSimpArgs false
set_option linter.unusedVariables false
namespace Go.Proofs.Ytfmcdbcoljpomaa
open Go.RowKit Go.Vm
set_option maxRecDepth 100000
structure AS where
  L : List (Option AObj)
  es : List KV
  cc : Nat
  nm : Int → Int → Nat
  off : Int → Int → Nat
  lv : Value
  ka : Nat
structure AI (cen : Int) (n : Nat) (rs : List Ru) (vs : List Int) (k : Nat) (s : AS) : Prop where
  w : WOK cen n rs (vs.take k).length (TF cen rs (vs.take k)) s.nm s.off s.es s.cc s.L
  o : OutD 8 s.lv s.L (alF cen rs vs k) s.ka
  ok : s.lv ≠ .slice none 0 0 → ∀ a b, TF cen rs (vs.take k) a b ≠ [] → s.nm a b ≠ s.ka
  len : 8 ≤ s.L.length
  l2 : s.L[2]? = some (some (.cells ⟨rows eN vs, 0, false⟩))
abbrev frA (m d : Nat) (lv : Value) (k : Nat) : Fr := [(6, lv), (7, pt 7), (23, .slice (some ⟨2, 0, none⟩) m d), (24, .int .i64 m), (25, .int .i64 k)]
set_option maxHeartbeats 1000000 in
theorem al_step {bb m d : Nat} {cen : Int} {n : Nat} {rs : List Ru} {vs : List Int} (hn : rs.length = n) (hn8 : n ≤ 8) (hr : ∀ r ∈ rs, ruOK r = true) (hc : -1000000 ≤ cen ∧ cen ≤ 1000000) (hm : vs.length = m) (hm2 : m ≤ 200) (hv : ∀ v ∈ vs, -1000000 ≤ v ∧ v ≤ 1000000) (k : Nat) (s : AS) (hk : k < m) (I : AI cen n rs vs k s) :
    ∃ s', AI cen n rs vs (k + 1) s' ∧ ITri Try.prog 36 none bb ir14_13 (frA m d s.lv k) [] (Hp 3 s.L) (AtF (frA m d s'.lv k) (Hp 3 s'.L)) := by
  have hkr : k < vs.length := by omega
  obtain ⟨v, hvk⟩ : ∃ v, nth vs k = v := ⟨_, rfl⟩
  have hvb := hv _ (nth_mem hkr)
  rw [hvk] at hvb
  have gv : (rows eN vs)[k]? = some (.int .i64 v) := by rw [getN hkr, hvk]
  have htk : vs.take (k + 1) = vs.take k ++ [v] := by rw [List.take_add_one, get_nth hkr, hvk]; rfl
  have hlk : (vs.take k).length = k := by rw [List.length_take]; omega
  obtain ⟨Iw, Io, Iok, Ilen, Il2⟩ := I
  obtain ⟨L', es', cc', nm', off', lvA, kl, t1, t2, t3, t4, t5, t6⟩ := take_x hn hn8 hr hc hvb (by omega) Ilen Iw
  rw [← htk] at t2 t3 t4 t6
  have hA : alF cen rs vs (k + 1) = alF cen rs vs k ++ atF cen rs (vs.take (k + 1)) n := by rw [alF, hn]
  have hAl := atF_len cen rs (vs.take (k + 1)) n
  have hal := alF_len cen rs vs k
  have hal2 : (alF cen rs vs k).length ≤ 3200 := by
    have : k * (2 * rs.length) ≤ 200 * 16 := Nat.mul_le_mul (by omega) (by omega)
    omega
  obtain ⟨A, hAe⟩ : ∃ A, atF cen rs (vs.take (k + 1)) n = A := ⟨_, rfl⟩
  obtain ⟨C, hCe⟩ : ∃ C, alF cen rs vs k = C := ⟨_, rfl⟩
  rw [hAe] at hA t3 hAl
  rw [hCe] at hA Io hal2
  have hnm8 : ∀ a b, TF cen rs (vs.take k) a b ≠ [] → 8 ≤ s.nm a b := fun a b h => (Iw.hx a b h).1
  have hL2 : L'[2]? = some (some (.cells ⟨rows eN vs, 0, false⟩)) := by
    rw [(t6 2 (by decide) (by decide) (by omega) fun a b h => by have := hnm8 a b h; omega).1]
    exact Il2
  obtain ⟨w5, w7, w6, wf, wx, wi⟩ := t2
  -- the list so far stands as it was
  have hCk : ∀ ka, s.lv ≠ .slice none 0 0 → ka = s.ka → L'[ka]? = s.L[ka]? ∧ ∀ a b, TF cen rs (vs.take (k + 1)) a b ≠ [] → nm' a b ≠ ka := fun ka h e => by
    subst e
    rcases Io with q | ⟨q1, q2, q3⟩
    · exact absurd q.1 h
    · exact t6 _ (by omega) (by omega) (get_lt q3) fun a b hab => Iok h a b hab
  have walk : ∀ lv' L2, (∀ Q : Value → AH → Prop, Q lv' (Hp 3 L2) → appK (Hp 3 L') 3 24 s.lv lvA Q) → ITri Try.prog 36 none bb ir14_13 (frA m d s.lv k) [] (Hp 3 s.L) (AtF (frA m d lv' k) (Hp 3 L2)) := fun lv' L2 h => by
    refine ITri.block ?_
    refine ITri.seq ?_
    refine ITri.reg pokT ?_; simp -implicitDefEqProofs (disch := first | decide | exact of_eq_true (eq_true rfl) | omega | assumption) only [Il2, gv,  ↓vcD, vcE, evs, evP, evB, intsOf, fillC, Value.cells, pt, List.append_nil, List.nil_append, List.cons_append, List.length_cons, List.length_nil, List.filter_nil, List.map_nil, ↓List.getElem?_cons_zero, ↓List.getElem?_cons_succ, List.getElem?_cons_zero, List.getElem?_cons_succ, List.set_cons_zero, List.set_cons_succ, Option.join_some, Option.join_none, Option.map_some, List.all_cons, List.all_nil, Value.oneCell', reduceIte, reduceCtorEq, Nat.reduceEqDiff, Nat.reduceAdd, Nat.reduceMul, Nat.reduceLT, Nat.reduceBEq, Nat.reduceLeDiff, Nat.reduceSub, List.size_toArray] -- r11
    refine ITri.reg pokT ?_; simp -implicitDefEqProofs (disch := first | decide | exact of_eq_true (eq_true rfl) | omega | assumption) only [ ↓vcD, vcE, evs, evP, evB, intsOf, fillC, Value.cells, pt, List.append_nil, List.nil_append, List.cons_append, List.length_cons, List.length_nil, List.filter_nil, List.map_nil, ↓List.getElem?_cons_zero, ↓List.getElem?_cons_succ, List.getElem?_cons_zero, List.getElem?_cons_succ, List.set_cons_zero, List.set_cons_succ, Option.join_some, Option.join_none, Option.map_some, List.all_cons, List.all_nil, Value.oneCell', reduceIte, reduceCtorEq, Nat.reduceEqDiff, Nat.reduceAdd, Nat.reduceMul, Nat.reduceLT, Nat.reduceBEq, Nat.reduceLeDiff, Nat.reduceSub, List.size_toArray] -- r12
    refine ⟨_, _, t1, ?_⟩
    try simp -implicitDefEqProofs (disch := first | decide | exact of_eq_true (eq_true rfl) | omega | assumption) only [ ↓vcD, vcE, evs, evP, evB, intsOf, fillC, Value.cells, pt, List.append_nil, List.nil_append, List.cons_append, List.length_cons, List.length_nil, List.filter_nil, List.map_nil, ↓List.getElem?_cons_zero, ↓List.getElem?_cons_succ, List.getElem?_cons_zero, List.getElem?_cons_succ, List.set_cons_zero, List.set_cons_succ, Option.join_some, Option.join_none, Option.map_some, List.all_cons, List.all_nil, Value.oneCell', reduceIte, reduceCtorEq, Nat.reduceEqDiff, Nat.reduceAdd, Nat.reduceMul, Nat.reduceLT, Nat.reduceBEq, Nat.reduceLeDiff, Nat.reduceSub, List.size_toArray]
    refine h _ ?_
    exact AtF.mk ⟨rfl, rfl, rfl, rfl, rfl, trivial⟩
  by_cases hA0 : A = []
  · -- nothing new
    subst hA0
    rw [List.append_nil] at hA
    have hlvA : lvA = .slice none 0 0 ∨ ∃ k2, lvA = .slice (some ⟨k2, 0, none⟩) 0 openB := by
      rcases t3 with q | ⟨q1, q2, q3⟩
      · exact .inl q.1
      · exact .inr ⟨kl, q2⟩
    refine ⟨⟨L', es', cc', nm', off', s.lv, s.ka⟩, ⟨⟨w5, w7, w6, wf, wx, wi⟩, ?_, ?_, by have := Ilen; show 8 ≤ L'.length; omega, hL2⟩, ?_⟩
    · rw [hA]
      rcases Io with q | ⟨q1, q2, q3⟩
      · exact .inl q
      · exact .inr ⟨q1, q2, by rw [(hCk _ (by rw [q2]; simp) rfl).1]; exact q3⟩
    · exact fun h => (hCk _ h rfl).2
    · refine walk s.lv L' fun Q hQ => ?_
      rcases Io with q | ⟨q1, q2, q3⟩
      · rw [q.1] at hQ ⊢
        rcases hlvA with e | ⟨k2, e⟩
        · rw [e, appK_z2]; exact hQ
        · rw [e, appK_z3]; exact hQ
      · rw [q2] at hQ ⊢
        rcases hlvA with e | ⟨k2, e⟩
        · rw [e, appK_z1]; exact hQ
        · rw [e, appK_zo]; exact hQ
  · have hAn : A.length ≠ 0 := fun e => hA0 (List.eq_nil_of_length_eq_zero e)
    have hlA : (rows eU A).length = A.length * 3 := by rw [rows_len]
    rcases t3 with q | ⟨q1, q2, q3⟩
    · exact absurd q.2 hA0
    have hcl : cellsAt (Hp 3 L') kl 0 (A.length * 3) = some (rows eU A) := by
      unfold cellsAt
      rw [get_hq (wl := 3) (k := kl) (L := L') (o := .cells ⟨rows eU A, 3, true⟩) rfl (by rw [q3]; rfl)]
      simp only [← hlA]
      rw [if_pos (by omega)]
      simp
    rcases Io with ⟨p1, p2⟩ | ⟨p1, p2, p3⟩
    · subst p2
      refine ⟨⟨L' ++ [some (.cells ⟨rows eU A, 3, true⟩)], es', cc', nm', off', .slice (some ⟨L'.length, 0, none⟩) A.length openB, L'.length⟩, ⟨⟨low_get w5, low_get w7, low_get w6, wf, fun a b hab => ?_, wi⟩, ?_, ?_, by show 8 ≤ (L' ++ _).length; rw [List.length_append]; omega, low_get hL2⟩, ?_⟩
      · obtain ⟨x1, X, x2, x3⟩ := wx a b hab
        exact ⟨x1, X, low_get x2, x3⟩
      · rw [hA]
        exact .inr ⟨by show 8 ≤ L'.length; omega, rfl, by show (L' ++ _)[L'.length]? = _; rw [apd_get0]; rfl⟩
      · intro _ a b hab
        obtain ⟨x1, X, x2, x3⟩ := wx a b hab
        have := get_lt x2
        show nm' a b ≠ L'.length
        omega
      · refine walk _ _ fun Q hQ => ?_
        rw [p1, q2, appK_n hAn, hcl]
        exact ⟨by omega, hQ⟩
    · obtain ⟨c1, c2⟩ := hCk s.ka (by rw [p2]; simp) rfl
      rw [p3] at c1
      have hkal := get_lt c1
      have hlC : (rows eU C).length = C.length * 3 := by rw [rows_len]
      have g : ∀ j x, j ≠ s.ka → L'[j]? = some x → ((L' ++ [some (AObj.cells ⟨rows eU (C ++ A), 3, true⟩)]).set s.ka none)[j]? = some x := fun j x h1 h2 => by
        rw [List.getElem?_set_ne (by omega)]
        exact low_get h2
      refine ⟨⟨(L' ++ [some (AObj.cells ⟨rows eU (C ++ A), 3, true⟩)]).set s.ka none, es', cc', nm', off', .slice (some ⟨L'.length, 0, none⟩) (C.length + A.length) openB, L'.length⟩, ⟨⟨g _ _ (by omega) w5, g _ _ (by omega) w7, g _ _ (by omega) w6, wf, fun a b hab => ?_, wi⟩, ?_, ?_, by show 8 ≤ (List.set _ _ _).length; rw [List.length_set, List.length_append]; omega, g _ _ (by omega) hL2⟩, ?_⟩
      · obtain ⟨x1, X, x2, x3⟩ := wx a b hab
        exact ⟨x1, X, g _ _ (c2 a b hab) x2, x3⟩
      · rw [hA]
        refine .inr ⟨by show 8 ≤ L'.length; omega, by rw [List.length_append], ?_⟩
        show (List.set _ _ _)[L'.length]? = _
        rw [List.getElem?_set_ne (by omega), apd_get0]
        rfl
      · intro _ a b hab
        obtain ⟨x1, X, x2, x3⟩ := wx a b hab
        have := get_lt x2
        show nm' a b ≠ L'.length
        omega
      · refine walk _ _ fun Q hQ => ?_
        rw [p2, q2, appK_o (old := rows eU C) rfl (by rw [c1]; rfl) hlC hAn, hcl]
        refine ⟨by omega, rows_allT A, ?_⟩
        rw [← rows_append]
        exact hQ
theorem alarms_c (n c m d : Nat) (cen : Int) (rs : List Ru) (vs : List Int) (hn : rs.length = n) (hb : n ≤ 1000000) (hm : vs.length = m) (hb2 : m ≤ 1000000) :
    Fc Try.prog 14 [chV cen (.slice (some ⟨1, 0, none⟩) n c), .slice (some ⟨2, 0, none⟩) m d] (Hp 3 [none, some (.cells ⟨rows eU rs, 0, false⟩), some (.cells ⟨rows eN vs, 0, false⟩)]) (raV (alF cen rs vs m) (alE cen rs vs)) ((Hp 3 [none, some (.cells ⟨rows eU rs, 0, false⟩), some (.cells ⟨rows eN vs, 0, false⟩)]).news (raO (alF cen rs vs m) (alE cen rs vs))) := by
  refine Fc.introR fn14 (by simp) rfl rfl ?_; simp only [argF]
  refine ITri.seq ?_
  refine ITri.reg pokT ?_; simp -implicitDefEqProofs (disch := first | decide | exact of_eq_true (eq_true rfl) | omega | assumption) only [ ↓vcD, vcE, evs, evP, evB, intsOf, fillC, Value.cells, pt, List.append_nil, List.nil_append, List.cons_append, List.length_cons, List.length_nil, List.filter_nil, List.map_nil, ↓List.getElem?_cons_zero, ↓List.getElem?_cons_succ, List.getElem?_cons_zero, List.getElem?_cons_succ, List.set_cons_zero, List.set_cons_succ, Option.join_some, Option.join_none, Option.map_some, List.all_cons, List.all_nil, Value.oneCell', reduceIte, reduceCtorEq, Nat.reduceEqDiff, Nat.reduceAdd, Nat.reduceMul, Nat.reduceLT, Nat.reduceBEq, Nat.reduceLeDiff, Nat.reduceSub, List.size_toArray] -- r0
  refine ITri.seq ?_
  refine ITri.block ?_
  refine ITri.seq ?_
  refine ITri.reg pokT ?_; simp -implicitDefEqProofs (disch := first | decide | exact of_eq_true (eq_true rfl) | omega | assumption) only [ ↓vcD, vcE, evs, evP, evB, intsOf, fillC, Value.cells, pt, List.append_nil, List.nil_append, List.cons_append, List.length_cons, List.length_nil, List.filter_nil, List.map_nil, ↓List.getElem?_cons_zero, ↓List.getElem?_cons_succ, List.getElem?_cons_zero, List.getElem?_cons_succ, List.set_cons_zero, List.set_cons_succ, Option.join_some, Option.join_none, Option.map_some, List.all_cons, List.all_nil, Value.oneCell', reduceIte, reduceCtorEq, Nat.reduceEqDiff, Nat.reduceAdd, Nat.reduceMul, Nat.reduceLT, Nat.reduceBEq, Nat.reduceLeDiff, Nat.reduceSub, List.size_toArray] -- r1
  refine ⟨_, _, check_f cen hn hb (sees0 rfl (of_decide_eq_true rfl)) (Rd.hq rfl rfl), ?_⟩
  try simp -implicitDefEqProofs (disch := first | decide | exact of_eq_true (eq_true rfl) | omega | assumption) only [ ↓vcD, vcE, evs, evP, evB, intsOf, fillC, Value.cells, pt, List.append_nil, List.nil_append, List.cons_append, List.length_cons, List.length_nil, List.filter_nil, List.map_nil, ↓List.getElem?_cons_zero, ↓List.getElem?_cons_succ, List.getElem?_cons_zero, List.getElem?_cons_succ, List.set_cons_zero, List.set_cons_succ, Option.join_some, Option.join_none, Option.map_some, List.all_cons, List.all_nil, Value.oneCell', reduceIte, reduceCtorEq, Nat.reduceEqDiff, Nat.reduceAdd, Nat.reduceMul, Nat.reduceLT, Nat.reduceBEq, Nat.reduceLeDiff, Nat.reduceSub, List.size_toArray]
  cases hch : chOK cen rs with
  | false =>
    have e0 : alE cen rs vs = 2 := if_pos hch
    have e1 : chE cen rs = 2 := if_neg (by rw [hch]; simp)
    rw [e0, e1]
    refine ITri.cond (v := true) rfl (fun _ => ?_) (fun h => by cases h)
    refine ITri.seq ?_
    refine ITri.reg pokT ?_; simp -implicitDefEqProofs (disch := first | decide | exact of_eq_true (eq_true rfl) | omega | assumption) only [ ↓vcD, vcE, evs, evP, evB, intsOf, fillC, Value.cells, pt, List.append_nil, List.nil_append, List.cons_append, List.length_cons, List.length_nil, List.filter_nil, List.map_nil, ↓List.getElem?_cons_zero, ↓List.getElem?_cons_succ, List.getElem?_cons_zero, List.getElem?_cons_succ, List.set_cons_zero, List.set_cons_succ, Option.join_some, Option.join_none, Option.map_some, List.all_cons, List.all_nil, Value.oneCell', reduceIte, reduceCtorEq, Nat.reduceEqDiff, Nat.reduceAdd, Nat.reduceMul, Nat.reduceLT, Nat.reduceBEq, Nat.reduceLeDiff, Nat.reduceSub, List.size_toArray]
    refine ITri.ret ?_; exact EndR.plain (vs := [.slice none 0 0, .int .i64 2]) (by simp) (by rfl) (by rfl) (by rfl)
  | true =>
  have e1 : chE cen rs = 0 := if_pos hch
  have f1 : alE cen rs vs = _ := if_neg (by rw [hch]; simp)
  rw [e1]
  refine ITri.cond (v := false) rfl (fun h => by cases h) (fun _ => ?_)
  refine ITri.seq ?_
  refine ITri.reg pokT ?_; simp -implicitDefEqProofs (disch := first | decide | exact of_eq_true (eq_true rfl) | omega | assumption) only [ ↓vcD, vcE, evs, evP, evB, intsOf, fillC, Value.cells, pt, List.append_nil, List.nil_append, List.cons_append, List.length_cons, List.length_nil, List.filter_nil, List.map_nil, ↓List.getElem?_cons_zero, ↓List.getElem?_cons_succ, List.getElem?_cons_zero, List.getElem?_cons_succ, List.set_cons_zero, List.set_cons_succ, Option.join_some, Option.join_none, Option.map_some, List.all_cons, List.all_nil, Value.oneCell', reduceIte, reduceCtorEq, Nat.reduceEqDiff, Nat.reduceAdd, Nat.reduceMul, Nat.reduceLT, Nat.reduceBEq, Nat.reduceLeDiff, Nat.reduceSub, List.size_toArray] -- r3
  refine ITri.condD (by rfl) (fun h1 => ?_) (fun h1 => ?_)
  · have e0 : alE cen rs vs = 5 := by rw [f1]; exact if_pos (by omega)
    rw [e0]
    refine ITri.seq ?_
    refine ITri.reg pokT ?_; simp -implicitDefEqProofs (disch := first | decide | exact of_eq_true (eq_true rfl) | omega | assumption) only [ ↓vcD, vcE, evs, evP, evB, intsOf, fillC, Value.cells, pt, List.append_nil, List.nil_append, List.cons_append, List.length_cons, List.length_nil, List.filter_nil, List.map_nil, ↓List.getElem?_cons_zero, ↓List.getElem?_cons_succ, List.getElem?_cons_zero, List.getElem?_cons_succ, List.set_cons_zero, List.set_cons_succ, Option.join_some, Option.join_none, Option.map_some, List.all_cons, List.all_nil, Value.oneCell', reduceIte, reduceCtorEq, Nat.reduceEqDiff, Nat.reduceAdd, Nat.reduceMul, Nat.reduceLT, Nat.reduceBEq, Nat.reduceLeDiff, Nat.reduceSub, List.size_toArray]
    refine ITri.ret ?_; exact EndR.plain (vs := [.slice none 0 0, .int .i64 5]) (by simp) (by rfl) (by rfl) (by rfl)
  rw [if_neg (show ¬ 200 < vs.length by omega)] at f1
  refine ITri.seq ?_
  refine ITri.reg pokT ?_; simp -implicitDefEqProofs (disch := first | decide | exact of_eq_true (eq_true rfl) | omega | assumption) only [ ↓vcD, vcE, evs, evP, evB, intsOf, fillC, Value.cells, pt, List.append_nil, List.nil_append, List.cons_append, List.length_cons, List.length_nil, List.filter_nil, List.map_nil, ↓List.getElem?_cons_zero, ↓List.getElem?_cons_succ, List.getElem?_cons_zero, List.getElem?_cons_succ, List.set_cons_zero, List.set_cons_succ, Option.join_some, Option.join_none, Option.map_some, List.all_cons, List.all_nil, Value.oneCell', reduceIte, reduceCtorEq, Nat.reduceEqDiff, Nat.reduceAdd, Nat.reduceMul, Nat.reduceLT, Nat.reduceBEq, Nat.reduceLeDiff, Nat.reduceSub, List.size_toArray] -- r5
  refine ⟨_, _, containsV_x (ks := 2) (sz := 0) (op := false) _ hm hb2 (by simp) rfl, ?_⟩
  simp -implicitDefEqProofs (disch := first | decide | exact of_eq_true (eq_true rfl) | omega | assumption) only [any_notV,  ↓vcD, vcE, evs, evP, evB, intsOf, fillC, Value.cells, pt, List.append_nil, List.nil_append, List.cons_append, List.length_cons, List.length_nil, List.filter_nil, List.map_nil, ↓List.getElem?_cons_zero, ↓List.getElem?_cons_succ, List.getElem?_cons_zero, List.getElem?_cons_succ, List.set_cons_zero, List.set_cons_succ, Option.join_some, Option.join_none, Option.map_some, List.all_cons, List.all_nil, Value.oneCell', reduceIte, reduceCtorEq, Nat.reduceEqDiff, Nat.reduceAdd, Nat.reduceMul, Nat.reduceLT, Nat.reduceBEq, Nat.reduceLeDiff, Nat.reduceSub, List.size_toArray]
  cases hall : vs.all fun v => inT v (-1000000) 1000000 with
  | false =>
    have e0 : alE cen rs vs = 3 := by rw [f1]; exact if_pos hall
    rw [e0]
    refine ITri.cond (v := true) rfl (fun _ => ?_) (fun h => by cases h)
    refine ITri.seq ?_
    refine ITri.reg pokT ?_; simp -implicitDefEqProofs (disch := first | decide | exact of_eq_true (eq_true rfl) | omega | assumption) only [ ↓vcD, vcE, evs, evP, evB, intsOf, fillC, Value.cells, pt, List.append_nil, List.nil_append, List.cons_append, List.length_cons, List.length_nil, List.filter_nil, List.map_nil, ↓List.getElem?_cons_zero, ↓List.getElem?_cons_succ, List.getElem?_cons_zero, List.getElem?_cons_succ, List.set_cons_zero, List.set_cons_succ, Option.join_some, Option.join_none, Option.map_some, List.all_cons, List.all_nil, Value.oneCell', reduceIte, reduceCtorEq, Nat.reduceEqDiff, Nat.reduceAdd, Nat.reduceMul, Nat.reduceLT, Nat.reduceBEq, Nat.reduceLeDiff, Nat.reduceSub, List.size_toArray]
    refine ITri.ret ?_; exact EndR.plain (vs := [.slice none 0 0, .int .i64 3]) (by simp) (by rfl) (by rfl) (by rfl)
  | true =>
  have e0 : alE cen rs vs = 0 := by rw [f1]; exact if_neg (by rw [hall]; simp)
  rw [e0]
  obtain ⟨_, hl2, hvb⟩ := alE_ok e0
  obtain ⟨bc, bn, br⟩ := chOK_ok hch
  refine ITri.cond (v := false) rfl (fun h => by cases h) (fun _ => ?_)
  refine ITri.skip ?_; simp only [SeqQ_normal, BlkQ_normal]
  refine ITri.seq ?_
  refine ITri.reg pokT ?_; simp -implicitDefEqProofs (disch := first | decide | exact of_eq_true (eq_true rfl) | omega | assumption) only [ ↓vcD, vcE, evs, evP, evB, intsOf, fillC, Value.cells, pt, List.append_nil, List.nil_append, List.cons_append, List.length_cons, List.length_nil, List.filter_nil, List.map_nil, ↓List.getElem?_cons_zero, ↓List.getElem?_cons_succ, List.getElem?_cons_zero, List.getElem?_cons_succ, List.set_cons_zero, List.set_cons_succ, Option.join_some, Option.join_none, Option.map_some, List.all_cons, List.all_nil, Value.oneCell', reduceIte, reduceCtorEq, Nat.reduceEqDiff, Nat.reduceAdd, Nat.reduceMul, Nat.reduceLT, Nat.reduceBEq, Nat.reduceLeDiff, Nat.reduceSub, List.size_toArray] -- r7
  refine ITri.seq ?_
  refine ITri.reg pokT ?_; simp -implicitDefEqProofs (disch := first | decide | exact of_eq_true (eq_true rfl) | omega | assumption) only [ ↓vcD, vcE, evs, evP, evB, intsOf, fillC, Value.cells, pt, List.append_nil, List.nil_append, List.cons_append, List.length_cons, List.length_nil, List.filter_nil, List.map_nil, ↓List.getElem?_cons_zero, ↓List.getElem?_cons_succ, List.getElem?_cons_zero, List.getElem?_cons_succ, List.set_cons_zero, List.set_cons_succ, Option.join_some, Option.join_none, Option.map_some, List.all_cons, List.all_nil, Value.oneCell', reduceIte, reduceCtorEq, Nat.reduceEqDiff, Nat.reduceAdd, Nat.reduceMul, Nat.reduceLT, Nat.reduceBEq, Nat.reduceLeDiff, Nat.reduceSub, List.size_toArray] -- r8
  refine ⟨_, _, newWatch_x n c cen rs vs hn hb, ?_⟩
  try simp -implicitDefEqProofs (disch := first | decide | exact of_eq_true (eq_true rfl) | omega | assumption) only [ ↓vcD, vcE, evs, evP, evB, intsOf, fillC, Value.cells, pt, List.append_nil, List.nil_append, List.cons_append, List.length_cons, List.length_nil, List.filter_nil, List.map_nil, ↓List.getElem?_cons_zero, ↓List.getElem?_cons_succ, List.getElem?_cons_zero, List.getElem?_cons_succ, List.set_cons_zero, List.set_cons_succ, Option.join_some, Option.join_none, Option.map_some, List.all_cons, List.all_nil, Value.oneCell', reduceIte, reduceCtorEq, Nat.reduceEqDiff, Nat.reduceAdd, Nat.reduceMul, Nat.reduceLT, Nat.reduceBEq, Nat.reduceLeDiff, Nat.reduceSub, List.size_toArray]
  refine ITri.seq ?_
  refine ITri.seq ?_
  refine ITri.reg pokT ?_; simp -implicitDefEqProofs (disch := first | decide | exact of_eq_true (eq_true rfl) | omega | assumption) only [ ↓vcD, vcE, evs, evP, evB, intsOf, fillC, Value.cells, pt, List.append_nil, List.nil_append, List.cons_append, List.length_cons, List.length_nil, List.filter_nil, List.map_nil, ↓List.getElem?_cons_zero, ↓List.getElem?_cons_succ, List.getElem?_cons_zero, List.getElem?_cons_succ, List.set_cons_zero, List.set_cons_succ, Option.join_some, Option.join_none, Option.map_some, List.all_cons, List.all_nil, Value.oneCell', reduceIte, reduceCtorEq, Nat.reduceEqDiff, Nat.reduceAdd, Nat.reduceMul, Nat.reduceLT, Nat.reduceBEq, Nat.reduceLeDiff, Nat.reduceSub, List.size_toArray] -- r9
  obtain ⟨f, f0, fI, fR⟩ := seq_ex (AI cen n rs vs) (fun k s s' => ITri Try.prog 36 none 3 ir14_13 (frA m d s.lv k) [] (Hp 3 s.L) (AtF (frA m d s'.lv k) (Hp 3 s'.L))) m ⟨m4 n c cen rs vs ++ [some (.cells ⟨[.int .i64 cen, rl7 n], 1, false⟩), some (.cells ⟨rows eU rs, 3, true⟩), some (.map [] 0), wt7 cen n 0], [], 0, fun _ _ => 0, fun _ _ => 0, .slice none 0 0, 0⟩ ⟨⟨rfl, rfl, rfl, fun a b => by rw [List.take_zero, TF_nil, if_pos rfl]; rfl, fun a b h => absurd (by rw [List.take_zero]; exact TF_nil _ _ _ _) h, fun a b a' b' h => absurd (by rw [List.take_zero]; exact TF_nil _ _ _ _) h⟩, .inl ⟨rfl, rfl⟩, fun h => absurd rfl h, by simp, rfl⟩ (al_step hn (by omega) br bc hm (by omega) hvb)
  refine ITri.block ?_
  refine ITri.loop (fun k : Nat => frA m d (f k).lv k) (fun _ => []) (fun k => Hp 3 (f k).L) (fun k => k ≤ m) (fun k => m - k) 0 (Nat.zero_le _) (by rw [f0]; exact Wk.sub ⟨rfl, rfl, rfl, rfl, rfl, trivial⟩) fun k hk => ?_
  refine ITri.seq ?_
  refine ITri.reg pokT ?_; simp -implicitDefEqProofs (disch := first | decide | exact of_eq_true (eq_true rfl) | omega | assumption) only [ ↓vcD, vcE, evs, evP, evB, intsOf, fillC, Value.cells, pt, List.append_nil, List.nil_append, List.cons_append, List.length_cons, List.length_nil, List.filter_nil, List.map_nil, ↓List.getElem?_cons_zero, ↓List.getElem?_cons_succ, List.getElem?_cons_zero, List.getElem?_cons_succ, List.set_cons_zero, List.set_cons_succ, Option.join_some, Option.join_none, Option.map_some, List.all_cons, List.all_nil, Value.oneCell', reduceIte, reduceCtorEq, Nat.reduceEqDiff, Nat.reduceAdd, Nat.reduceMul, Nat.reduceLT, Nat.reduceBEq, Nat.reduceLeDiff, Nat.reduceSub, List.size_toArray] -- r10
  refine ITri.seq ?_
  refine ITri.condD (by rfl) (fun h2 => ?_) (fun h2 => ?_)
  · have hkm : k < m := by omega
    refine ITri.skip ?_; simp only [SeqQ_normal, BlkQ_normal]
    refine ITri.seq ?_
    refine ITri.weak (l' := frA m d (f k).lv k) (Wk.sub ⟨rfl, rfl, rfl, rfl, rfl, trivial⟩) ?_
    refine ITri.atF (fR k hkm) ?_
    try simp -implicitDefEqProofs (disch := first | decide | exact of_eq_true (eq_true rfl) | omega | assumption) only [ ↓vcD, vcE, evs, evP, evB, intsOf, fillC, Value.cells, pt, List.append_nil, List.nil_append, List.cons_append, List.length_cons, List.length_nil, List.filter_nil, List.map_nil, ↓List.getElem?_cons_zero, ↓List.getElem?_cons_succ, List.getElem?_cons_zero, List.getElem?_cons_succ, List.set_cons_zero, List.set_cons_succ, Option.join_some, Option.join_none, Option.map_some, List.all_cons, List.all_nil, Value.oneCell', reduceIte, reduceCtorEq, Nat.reduceEqDiff, Nat.reduceAdd, Nat.reduceMul, Nat.reduceLT, Nat.reduceBEq, Nat.reduceLeDiff, Nat.reduceSub, List.size_toArray]
    refine ITri.reg pokT ?_; simp -implicitDefEqProofs (disch := first | decide | exact of_eq_true (eq_true rfl) | omega | assumption) only [ ↓vcD, vcE, evs, evP, evB, intsOf, fillC, Value.cells, pt, List.append_nil, List.nil_append, List.cons_append, List.length_cons, List.length_nil, List.filter_nil, List.map_nil, ↓List.getElem?_cons_zero, ↓List.getElem?_cons_succ, List.getElem?_cons_zero, List.getElem?_cons_succ, List.set_cons_zero, List.set_cons_succ, Option.join_some, Option.join_none, Option.map_some, List.all_cons, List.all_nil, Value.oneCell', reduceIte, reduceCtorEq, Nat.reduceEqDiff, Nat.reduceAdd, Nat.reduceMul, Nat.reduceLT, Nat.reduceBEq, Nat.reduceLeDiff, Nat.reduceSub, List.size_toArray] -- r13
    exact LoopQ.next (k + 1) (by omega) (by omega) (Wk.sub ⟨rfl, rfl, rfl, rfl, rfl, trivial⟩)
  refine ITri.exit ?_; try simp -implicitDefEqProofs (disch := first | decide | exact of_eq_true (eq_true rfl) | omega | assumption) only [ ↓vcD, vcE, evs, evP, evB, intsOf, fillC, Value.cells, pt, List.append_nil, List.nil_append, List.cons_append, List.length_cons, List.length_nil, List.filter_nil, List.map_nil, ↓List.getElem?_cons_zero, ↓List.getElem?_cons_succ, List.getElem?_cons_zero, List.getElem?_cons_succ, List.set_cons_zero, List.set_cons_succ, Option.join_some, Option.join_none, Option.map_some, List.all_cons, List.all_nil, Value.oneCell', reduceIte, reduceCtorEq, Nat.reduceEqDiff, Nat.reduceAdd, Nat.reduceMul, Nat.reduceLT, Nat.reduceBEq, Nat.reduceLeDiff, Nat.reduceSub, List.size_toArray]
  obtain rfl : m = k := by omega
  have In := fI m (Nat.le_refl _)
  refine ITri.seq ?_
  refine ITri.reg pokT ?_; simp -implicitDefEqProofs (disch := first | decide | exact of_eq_true (eq_true rfl) | omega | assumption) only [ ↓vcD, vcE, evs, evP, evB, intsOf, fillC, Value.cells, pt, List.append_nil, List.nil_append, List.cons_append, List.length_cons, List.length_nil, List.filter_nil, List.map_nil, ↓List.getElem?_cons_zero, ↓List.getElem?_cons_succ, List.getElem?_cons_zero, List.getElem?_cons_succ, List.set_cons_zero, List.set_cons_succ, Option.join_some, Option.join_none, Option.map_some, List.all_cons, List.all_nil, Value.oneCell', reduceIte, reduceCtorEq, Nat.reduceEqDiff, Nat.reduceAdd, Nat.reduceMul, Nat.reduceLT, Nat.reduceBEq, Nat.reduceLeDiff, Nat.reduceSub, List.size_toArray] -- r14
  refine ITri.ret ?_
  rcases In.o with ⟨q1, q2⟩ | ⟨q1, q2, q3⟩
  · rw [q1, q2]
    exact end_nil2 rfl
  · rw [q2]
    exact end_own2 (k := (f m).ka) (by omega) (rows_no (f := eU) _) q3 rfl
theorem alarms_f {n c m d : Nat} {cen : Int} {rs : List Ru} {vs : List Int} (hn : rs.length = n) (hb : n ≤ 1000000) (hm : vs.length = m) (hb2 : m ≤ 1000000) (he : alE cen rs vs = 0) {h : AH} {k sz k2 sz2 : Nat} {op op2 : Bool} (h0 : h.sees 0 = true) (hg : h.get k = some (.cells ⟨rows eU rs, sz, op⟩)) (hg2 : h.get k2 = some (.cells ⟨rows eN vs, sz2, op2⟩)) :
    Fc Try.prog 14 [chV cen (.slice (some ⟨k, 0, none⟩) n c), .slice (some ⟨k2, 0, none⟩) m d] h (.tuple #[.slice (some ⟨h.next, 0, none⟩) (alF cen rs vs m).length openB, .int .i64 0]) (h.new (.cells ⟨rows eU (alF cen rs vs m), 3, true⟩)) :=
  Fc.lift2o (mk := fun ss => .agg ⟨[.int .i64 cen] ++ ss.take 1⟩ :: ([] ++ ss.drop 1 ++ [])) (mkv := fun ss => .tuple ⟨[] ++ ss ++ [.int .i64 0]⟩) (os := [((alF cen rs vs m).length, rows eU (alF cen rs vs m), 3)]) (by
    have := alarms_c n c m d cen rs vs hn hb hm hb2
    rw [he] at this
    unfold raV raO at this
    rw [if_pos rfl, if_pos rfl, Hq_news] at this
    exact this) (MkL.ag2 rfl rfl rfl) (MkV.tup (MkL.mid rfl rfl)) (rows_no (f := eU) rs) (rows_no (f := eN) vs) (fun o ho => by simp at ho; subst ho; exact rows_no (f := eU) _) h0 hg hg2
theorem alarmsE_f {n c m d : Nat} {cen : Int} {rs : List Ru} {vs : List Int} (hn : rs.length = n) (hb : n ≤ 1000000) (hm : vs.length = m) (hb2 : m ≤ 1000000) (he : alE cen rs vs ≠ 0) {h : AH} {k sz k2 sz2 : Nat} {op op2 : Bool} (h0 : h.sees 0 = true) (hg : h.get k = some (.cells ⟨rows eU rs, sz, op⟩)) (hg2 : h.get k2 = some (.cells ⟨rows eN vs, sz2, op2⟩)) :
    Fc Try.prog 14 [chV cen (.slice (some ⟨k, 0, none⟩) n c), .slice (some ⟨k2, 0, none⟩) m d] h (.tuple #[.slice none 0 0, .int .i64 (alE cen rs vs)]) h :=
  Fc.lift2o (mk := fun ss => .agg ⟨[.int .i64 cen] ++ ss.take 1⟩ :: ([] ++ ss.drop 1 ++ [])) (mkv := fun _ => .tuple #[.slice none 0 0, .int .i64 (alE cen rs vs)]) (os := []) (by
    have := alarms_c n c m d cen rs vs hn hb hm hb2
    unfold raV raO at this
    rw [if_neg he, if_neg he, Hq_news] at this
    exact this) (MkL.ag2 rfl rfl rfl) (MkV.const rfl) (rows_no (f := eU) rs) (rows_no (f := eN) vs) (fun o ho => by cases ho) h0 hg hg2
end Go.Proofs.Ytfmcdbcoljpomaa
