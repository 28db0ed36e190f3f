/-
  Chapter 11, by names: the reference's Aged, and the law ShopAges.
-/
import Derived.Test.YtfmcdbcoljpomaaShopA3
set_option linter.unusedSimpArgs false
set_option linter.unusedVariables false
namespace Go.Proofs.Ytfmcdbcoljpomaa
open Go.RowKit Go.Vm
set_option maxRecDepth 100000

abbrev mA (wear : List Rg) (runs : List Int) : List (Option AObj) := [none, some (.cells ⟨rows eR wear, 0, false⟩), some (.cells ⟨rows eN runs, 0, false⟩)]
theorem anyB_not {α : Type} [Inhabited α] {p : α → Bool} {xs : List α} {k : Nat} (hk : k < xs.length) (h : p (nth xs k) = true) : xs.any p = true := List.any_eq_true.2 ⟨_, nth_mem hk, h⟩
theorem anyB_no {α : Type} [Inhabited α] {p : α → Bool} {xs : List α} (h : ∀ j, j < xs.length → p (nth xs j) = false) : xs.any p = false := by
  rw [List.any_eq_false]
  intro x hx
  obtain ⟨i, hi, rfl⟩ := List.mem_iff_getElem.1 hx
  have := h i hi
  rw [← (List.getElem?_eq_some_iff.1 (get_nth hi)).2] at this
  simp [this]
set_option maxHeartbeats 1000000 in
theorem refAged_c (nw cw nr cr : Nat) (life : Int) (wear : List Rg) (runs : List Int) (hw : wear.length = nw) (hr : runs.length = nr) (hb : nw ≤ 1000000) (hb2 : nr ≤ 1000000) :
    Fc Try.prog 19 [.int .i64 life, .slice (some ⟨1, 0, none⟩) nw cw, .slice (some ⟨2, 0, none⟩) nr cr] (Hp 3 (mA wear runs)) (v3 (agF life wear runs)) (Hp 3 (mA wear runs)) := by
  refine Fc.intro0 fn19 (by simp) rfl rfl ?_; simp only [argF]
  have hF : ∀ e, e ≠ 0 → agE life wear runs = e → agF life wear runs = (0, 0, e) := fun e h0 h => by
    unfold agF
    rw [if_neg (by rw [h]; exact h0), h]
  refine ITri.seq ?_
  refine ITri.reg pokT ?_; simp -implicitDefEqProofs (disch := first | decide | exact of_eq_true (eq_true rfl) | omega | assumption) only [ ↓vcD, vcE, evs, evP, evB, intsOf, fillC, Value.cells, pt, List.append_nil, List.nil_append, List.cons_append, List.length_cons, List.length_nil, List.filter_nil, List.map_nil, ↓List.getElem?_cons_zero, ↓List.getElem?_cons_succ, List.getElem?_cons_zero, List.getElem?_cons_succ, List.set_cons_zero, List.set_cons_succ, Option.join_some, Option.join_none, Option.map_some, List.all_cons, List.all_nil, Value.oneCell', reduceIte, reduceCtorEq, Nat.reduceEqDiff, Nat.reduceAdd, Nat.reduceMul, Nat.reduceLT, Nat.reduceBEq, Nat.reduceLeDiff, Nat.reduceSub, List.size_toArray] -- r0
  refine ITri.seq ?_
  refine ITri.seq ?_
  refine ITri.one (P := Try.prog) [(0, .int .i64 life), (1, .slice (some ⟨1, 0, none⟩) nw cw), (2, .slice (some ⟨2, 0, none⟩) nr cr), (23, .bool (decide ((500 : Int) < nr) || decide ((8 : Int) < nw)))] ?_ ?_
  · by_cases g1 : (500 : Int) < nr
    · refine ITri.reg pokT ?_; simp -implicitDefEqProofs (disch := first | decide | exact of_eq_true (eq_true rfl) | omega | assumption) only [g1, decide_true, Bool.true_or,  ↓vcD, vcE, evs, evP, evB, intsOf, fillC, Value.cells, pt, List.append_nil, List.nil_append, List.cons_append, List.length_cons, List.length_nil, List.filter_nil, List.map_nil, ↓List.getElem?_cons_zero, ↓List.getElem?_cons_succ, List.getElem?_cons_zero, List.getElem?_cons_succ, List.set_cons_zero, List.set_cons_succ, Option.join_some, Option.join_none, Option.map_some, List.all_cons, List.all_nil, Value.oneCell', reduceIte, reduceCtorEq, Nat.reduceEqDiff, Nat.reduceAdd, Nat.reduceMul, Nat.reduceLT, Nat.reduceBEq, Nat.reduceLeDiff, Nat.reduceSub, List.size_toArray]
    · refine ITri.reg pokT ?_; simp -implicitDefEqProofs (disch := first | decide | exact of_eq_true (eq_true rfl) | omega | assumption) only [g1, decide_true, decide_false, Bool.false_or,  ↓vcD, vcE, evs, evP, evB, intsOf, fillC, Value.cells, pt, List.append_nil, List.nil_append, List.cons_append, List.length_cons, List.length_nil, List.filter_nil, List.map_nil, ↓List.getElem?_cons_zero, ↓List.getElem?_cons_succ, List.getElem?_cons_zero, List.getElem?_cons_succ, List.set_cons_zero, List.set_cons_succ, Option.join_some, Option.join_none, Option.map_some, List.all_cons, List.all_nil, Value.oneCell', reduceIte, reduceCtorEq, Nat.reduceEqDiff, Nat.reduceAdd, Nat.reduceMul, Nat.reduceLT, Nat.reduceBEq, Nat.reduceLeDiff, Nat.reduceSub, List.size_toArray]
  cases g0 : (decide ((500 : Int) < nr) || decide ((8 : Int) < nw)) with
  | true =>
    rw [Bool.or_eq_true, decide_eq_true_eq, decide_eq_true_eq] at g0
    have e0 := hF 5 (by decide) (by unfold agE; rw [if_pos (by omega)])
    rw [e0]
    refine ITri.cond (v := true) rfl (fun _ => ?_) (fun h => by cases h)
    refine ITri.seq ?_
    refine ITri.reg pokT ?_; simp -implicitDefEqProofs (disch := first | decide | exact of_eq_true (eq_true rfl) | omega | assumption) only [ ↓vcD, vcE, evs, evP, evB, intsOf, fillC, Value.cells, pt, List.append_nil, List.nil_append, List.cons_append, List.length_cons, List.length_nil, List.filter_nil, List.map_nil, ↓List.getElem?_cons_zero, ↓List.getElem?_cons_succ, List.getElem?_cons_zero, List.getElem?_cons_succ, List.set_cons_zero, List.set_cons_succ, Option.join_some, Option.join_none, Option.map_some, List.all_cons, List.all_nil, Value.oneCell', reduceIte, reduceCtorEq, Nat.reduceEqDiff, Nat.reduceAdd, Nat.reduceMul, Nat.reduceLT, Nat.reduceBEq, Nat.reduceLeDiff, Nat.reduceSub, List.size_toArray]
    refine ITri.ret ?_; exact EndR.plain (vs := [.int .i64 0, .int .i64 0, .int .i64 5]) (by simp) (by rfl) (by rfl) (by rfl)
  | false =>
  rw [Bool.or_eq_false_iff, decide_eq_false_iff_not, decide_eq_false_iff_not] at g0
  have f1 : agE life wear runs = _ := if_neg (show ¬ (500 < runs.length ∨ 8 < wear.length) by omega)
  refine ITri.cond (v := false) rfl (fun h => by cases h) (fun _ => ?_); refine ITri.skip ?_; simp only [SeqQ_normal, BlkQ_normal]
  refine ITri.seq ?_
  refine ITri.seq ?_
  refine ITri.reg pokT ?_; simp -implicitDefEqProofs (disch := first | decide | exact of_eq_true (eq_true rfl) | omega | assumption) only [ ↓vcD, vcE, evs, evP, evB, intsOf, fillC, Value.cells, pt, List.append_nil, List.nil_append, List.cons_append, List.length_cons, List.length_nil, List.filter_nil, List.map_nil, ↓List.getElem?_cons_zero, ↓List.getElem?_cons_succ, List.getElem?_cons_zero, List.getElem?_cons_succ, List.set_cons_zero, List.set_cons_succ, Option.join_some, Option.join_none, Option.map_some, List.all_cons, List.all_nil, Value.oneCell', reduceIte, reduceCtorEq, Nat.reduceEqDiff, Nat.reduceAdd, Nat.reduceMul, Nat.reduceLT, Nat.reduceBEq, Nat.reduceLeDiff, Nat.reduceSub, List.size_toArray] -- r3
  refine ITri.block ?_ -- 0
  refine ITri.loop (fun k : Nat => [(0, .int .i64 life), (1, .slice (some ⟨1, 0, none⟩) nw cw), (2, .slice (some ⟨2, 0, none⟩) nr cr), (9, .int .i64 k)]) (fun _ => []) (fun k => Hp 3 (mA wear runs)) (fun k => k ≤ nw ∧ ∀ j, j < k → badR (nth wear j) = false) (fun k => nw - k) 0 ⟨Nat.zero_le _, fun j hj => by omega⟩ (Wk.sub ⟨rfl, rfl, rfl, rfl, trivial⟩) fun k hk => ?_
  obtain ⟨hk, hj⟩ := hk
  refine ITri.seq ?_
  refine ITri.seq ?_
  refine ITri.reg pokT ?_; simp -implicitDefEqProofs (disch := first | decide | exact of_eq_true (eq_true rfl) | omega | assumption) only [ ↓vcD, vcE, evs, evP, evB, intsOf, fillC, Value.cells, pt, List.append_nil, List.nil_append, List.cons_append, List.length_cons, List.length_nil, List.filter_nil, List.map_nil, ↓List.getElem?_cons_zero, ↓List.getElem?_cons_succ, List.getElem?_cons_zero, List.getElem?_cons_succ, List.set_cons_zero, List.set_cons_succ, Option.join_some, Option.join_none, Option.map_some, List.all_cons, List.all_nil, Value.oneCell', reduceIte, reduceCtorEq, Nat.reduceEqDiff, Nat.reduceAdd, Nat.reduceMul, Nat.reduceLT, Nat.reduceBEq, Nat.reduceLeDiff, Nat.reduceSub, List.size_toArray] -- r4
  refine ITri.condD (by rfl) (fun h1 => ?_) (fun h1 => ?_) -- %27
  · have hkw : k < wear.length := by omega
    obtain ⟨⟨ra, rb⟩, hab⟩ : ∃ r, nth wear k = r := ⟨_, rfl⟩
    have ga : (rows eR wear)[k * 2]? = some (.int .i64 ra) := by rw [rows_get0 (f := eR) hkw (by omega), hab]; rfl
    have gb : (rows eR wear)[k * 2 + 1]? = some (.int .i64 rb) := by rw [rows_get (f := eR) hkw (by omega), hab]; rfl
    have eb : badR (nth wear k) = (decide (ra < 0) || decide (rb < ra) || decide (1000000 < rb)) := by rw [hab]; rfl
    refine ITri.skip ?_; simp only [SeqQ_normal, BlkQ_normal]
    refine ITri.seq ?_
    refine ITri.block ?_ -- 1
    refine ITri.seq ?_
    refine ITri.one (P := Try.prog) [(0, .int .i64 life), (1, .slice (some ⟨1, 0, none⟩) nw cw), (2, .slice (some ⟨2, 0, none⟩) nr cr), (9, .int .i64 k), (56, .bool (badR (nth wear k)))] ?_ ?_
    · rw [eb]
      by_cases q1 : ra < 0
      · refine ITri.draw pokT ?_; simp -implicitDefEqProofs (disch := first | decide | exact of_eq_true (eq_true rfl) | omega | assumption) only [ga, gb, q1, decide_true, Bool.true_or,  ↓vcD, vcE, evs, evP, evB, intsOf, fillC, Value.cells, pt, List.append_nil, List.nil_append, List.cons_append, List.length_cons, List.length_nil, List.filter_nil, List.map_nil, ↓List.getElem?_cons_zero, ↓List.getElem?_cons_succ, List.getElem?_cons_zero, List.getElem?_cons_succ, List.set_cons_zero, List.set_cons_succ, Option.join_some, Option.join_none, Option.map_some, List.all_cons, List.all_nil, Value.oneCell', reduceIte, reduceCtorEq, Nat.reduceEqDiff, Nat.reduceAdd, Nat.reduceMul, Nat.reduceLT, Nat.reduceBEq, Nat.reduceLeDiff, Nat.reduceSub, List.size_toArray]
      · by_cases q2 : rb < ra
        · refine ITri.draw pokT ?_; simp -implicitDefEqProofs (disch := first | decide | exact of_eq_true (eq_true rfl) | omega | assumption) only [ga, gb, q1, q2, decide_true, decide_false, Bool.true_or, Bool.false_or,  ↓vcD, vcE, evs, evP, evB, intsOf, fillC, Value.cells, pt, List.append_nil, List.nil_append, List.cons_append, List.length_cons, List.length_nil, List.filter_nil, List.map_nil, ↓List.getElem?_cons_zero, ↓List.getElem?_cons_succ, List.getElem?_cons_zero, List.getElem?_cons_succ, List.set_cons_zero, List.set_cons_succ, Option.join_some, Option.join_none, Option.map_some, List.all_cons, List.all_nil, Value.oneCell', reduceIte, reduceCtorEq, Nat.reduceEqDiff, Nat.reduceAdd, Nat.reduceMul, Nat.reduceLT, Nat.reduceBEq, Nat.reduceLeDiff, Nat.reduceSub, List.size_toArray]
        · refine ITri.draw pokT ?_; simp -implicitDefEqProofs (disch := first | decide | exact of_eq_true (eq_true rfl) | omega | assumption) only [ga, gb, q1, q2, decide_true, decide_false, Bool.true_or, Bool.false_or,  ↓vcD, vcE, evs, evP, evB, intsOf, fillC, Value.cells, pt, List.append_nil, List.nil_append, List.cons_append, List.length_cons, List.length_nil, List.filter_nil, List.map_nil, ↓List.getElem?_cons_zero, ↓List.getElem?_cons_succ, List.getElem?_cons_zero, List.getElem?_cons_succ, List.set_cons_zero, List.set_cons_succ, Option.join_some, Option.join_none, Option.map_some, List.all_cons, List.all_nil, Value.oneCell', reduceIte, reduceCtorEq, Nat.reduceEqDiff, Nat.reduceAdd, Nat.reduceMul, Nat.reduceLT, Nat.reduceBEq, Nat.reduceLeDiff, Nat.reduceSub, List.size_toArray]
    cases hbd : badR (nth wear k) with
    | true =>
      have e0 := hF 2 (by decide) (by rw [f1, if_pos (.inr (anyB_not hkw hbd))])
      rw [e0]
      refine ITri.cond (v := true) rfl (fun _ => ?_) (fun h => by cases h)
      refine ITri.seq ?_
      refine ITri.reg pokT ?_; simp -implicitDefEqProofs (disch := first | decide | exact of_eq_true (eq_true rfl) | omega | assumption) only [ ↓vcD, vcE, evs, evP, evB, intsOf, fillC, Value.cells, pt, List.append_nil, List.nil_append, List.cons_append, List.length_cons, List.length_nil, List.filter_nil, List.map_nil, ↓List.getElem?_cons_zero, ↓List.getElem?_cons_succ, List.getElem?_cons_zero, List.getElem?_cons_succ, List.set_cons_zero, List.set_cons_succ, Option.join_some, Option.join_none, Option.map_some, List.all_cons, List.all_nil, Value.oneCell', reduceIte, reduceCtorEq, Nat.reduceEqDiff, Nat.reduceAdd, Nat.reduceMul, Nat.reduceLT, Nat.reduceBEq, Nat.reduceLeDiff, Nat.reduceSub, List.size_toArray]
      refine ITri.ret ?_; exact EndR.plain (vs := [.int .i64 0, .int .i64 0, .int .i64 2]) (by simp) (by rfl) (by rfl) (by rfl)
    | false =>
      refine ITri.cond (v := false) rfl (fun h => by cases h) (fun _ => ?_); refine ITri.skip ?_; simp only [SeqQ_normal, BlkQ_normal]
      refine ITri.reg pokT ?_; simp -implicitDefEqProofs (disch := first | decide | exact of_eq_true (eq_true rfl) | omega | assumption) only [ ↓vcD, vcE, evs, evP, evB, intsOf, fillC, Value.cells, pt, List.append_nil, List.nil_append, List.cons_append, List.length_cons, List.length_nil, List.filter_nil, List.map_nil, ↓List.getElem?_cons_zero, ↓List.getElem?_cons_succ, List.getElem?_cons_zero, List.getElem?_cons_succ, List.set_cons_zero, List.set_cons_succ, Option.join_some, Option.join_none, Option.map_some, List.all_cons, List.all_nil, Value.oneCell', reduceIte, reduceCtorEq, Nat.reduceEqDiff, Nat.reduceAdd, Nat.reduceMul, Nat.reduceLT, Nat.reduceBEq, Nat.reduceLeDiff, Nat.reduceSub, List.size_toArray] -- r5
      refine LoopQ.next (k + 1) ⟨by omega, fun j hj2 => ?_⟩ (by omega) (Wk.sub ⟨rfl, rfl, rfl, rfl, trivial⟩)
      rcases Nat.lt_or_ge j k with q | q
      · exact hj j q
      · obtain rfl : j = k := by omega
        exact hbd
  refine ITri.exit ?_; try simp -implicitDefEqProofs (disch := first | decide | exact of_eq_true (eq_true rfl) | omega | assumption) only [ ↓vcD, vcE, evs, evP, evB, intsOf, fillC, Value.cells, pt, List.append_nil, List.nil_append, List.cons_append, List.length_cons, List.length_nil, List.filter_nil, List.map_nil, ↓List.getElem?_cons_zero, ↓List.getElem?_cons_succ, List.getElem?_cons_zero, List.getElem?_cons_succ, List.set_cons_zero, List.set_cons_succ, Option.join_some, Option.join_none, Option.map_some, List.all_cons, List.all_nil, Value.oneCell', reduceIte, reduceCtorEq, Nat.reduceEqDiff, Nat.reduceAdd, Nat.reduceMul, Nat.reduceLT, Nat.reduceBEq, Nat.reduceLeDiff, Nat.reduceSub, List.size_toArray]
  have hgood : wear.any badR = false := anyB_no fun j h => hj j (by omega)
  clear hj hk h1
  refine ITri.seq ?_
  refine ITri.seq ?_
  refine ITri.reg pokT ?_; simp -implicitDefEqProofs (disch := first | decide | exact of_eq_true (eq_true rfl) | omega | assumption) only [ ↓vcD, vcE, evs, evP, evB, intsOf, fillC, Value.cells, pt, List.append_nil, List.nil_append, List.cons_append, List.length_cons, List.length_nil, List.filter_nil, List.map_nil, ↓List.getElem?_cons_zero, ↓List.getElem?_cons_succ, List.getElem?_cons_zero, List.getElem?_cons_succ, List.set_cons_zero, List.set_cons_succ, Option.join_some, Option.join_none, Option.map_some, List.all_cons, List.all_nil, Value.oneCell', reduceIte, reduceCtorEq, Nat.reduceEqDiff, Nat.reduceAdd, Nat.reduceMul, Nat.reduceLT, Nat.reduceBEq, Nat.reduceLeDiff, Nat.reduceSub, List.size_toArray] -- r8
  refine ⟨_, _, within_f _ _ _ (sees0 rfl (of_decide_eq_true rfl)), ?_⟩
  cases g3 : inT life 0 1000000 with
  | false =>
    have e0 := hF 2 (by decide) (by rw [f1, if_pos (.inl g3)])
    rw [e0]
    try simp -implicitDefEqProofs (disch := first | decide | exact of_eq_true (eq_true rfl) | omega | assumption) only [ ↓vcD, vcE, evs, evP, evB, intsOf, fillC, Value.cells, pt, List.append_nil, List.nil_append, List.cons_append, List.length_cons, List.length_nil, List.filter_nil, List.map_nil, ↓List.getElem?_cons_zero, ↓List.getElem?_cons_succ, List.getElem?_cons_zero, List.getElem?_cons_succ, List.set_cons_zero, List.set_cons_succ, Option.join_some, Option.join_none, Option.map_some, List.all_cons, List.all_nil, Value.oneCell', reduceIte, reduceCtorEq, Nat.reduceEqDiff, Nat.reduceAdd, Nat.reduceMul, Nat.reduceLT, Nat.reduceBEq, Nat.reduceLeDiff, Nat.reduceSub, List.size_toArray]
    refine ITri.cond (v := true) rfl (fun _ => ?_) (fun h => by cases h)
    refine ITri.seq ?_
    refine ITri.reg pokT ?_; simp -implicitDefEqProofs (disch := first | decide | exact of_eq_true (eq_true rfl) | omega | assumption) only [ ↓vcD, vcE, evs, evP, evB, intsOf, fillC, Value.cells, pt, List.append_nil, List.nil_append, List.cons_append, List.length_cons, List.length_nil, List.filter_nil, List.map_nil, ↓List.getElem?_cons_zero, ↓List.getElem?_cons_succ, List.getElem?_cons_zero, List.getElem?_cons_succ, List.set_cons_zero, List.set_cons_succ, Option.join_some, Option.join_none, Option.map_some, List.all_cons, List.all_nil, Value.oneCell', reduceIte, reduceCtorEq, Nat.reduceEqDiff, Nat.reduceAdd, Nat.reduceMul, Nat.reduceLT, Nat.reduceBEq, Nat.reduceLeDiff, Nat.reduceSub, List.size_toArray]
    refine ITri.ret ?_; exact EndR.plain (vs := [.int .i64 0, .int .i64 0, .int .i64 2]) (by simp) (by rfl) (by rfl) (by rfl)
  | true =>
  try simp -implicitDefEqProofs (disch := first | decide | exact of_eq_true (eq_true rfl) | omega | assumption) only [ ↓vcD, vcE, evs, evP, evB, intsOf, fillC, Value.cells, pt, List.append_nil, List.nil_append, List.cons_append, List.length_cons, List.length_nil, List.filter_nil, List.map_nil, ↓List.getElem?_cons_zero, ↓List.getElem?_cons_succ, List.getElem?_cons_zero, List.getElem?_cons_succ, List.set_cons_zero, List.set_cons_succ, Option.join_some, Option.join_none, Option.map_some, List.all_cons, List.all_nil, Value.oneCell', reduceIte, reduceCtorEq, Nat.reduceEqDiff, Nat.reduceAdd, Nat.reduceMul, Nat.reduceLT, Nat.reduceBEq, Nat.reduceLeDiff, Nat.reduceSub, List.size_toArray]
  refine ITri.cond (v := false) rfl (fun h => by cases h) (fun _ => ?_); refine ITri.skip ?_; simp only [SeqQ_normal, BlkQ_normal]
  rw [if_neg (by rw [g3, hgood]; simp)] at f1
  have ew : (wear.length : Int) = nw := by omega
  rw [ew] at f1
  refine ITri.seq ?_
  refine ITri.seq ?_
  refine ITri.reg pokT ?_; simp -implicitDefEqProofs (disch := first | decide | exact of_eq_true (eq_true rfl) | omega | assumption) only [ ↓vcD, vcE, evs, evP, evB, intsOf, fillC, Value.cells, pt, List.append_nil, List.nil_append, List.cons_append, List.length_cons, List.length_nil, List.filter_nil, List.map_nil, ↓List.getElem?_cons_zero, ↓List.getElem?_cons_succ, List.getElem?_cons_zero, List.getElem?_cons_succ, List.set_cons_zero, List.set_cons_succ, Option.join_some, Option.join_none, Option.map_some, List.all_cons, List.all_nil, Value.oneCell', reduceIte, reduceCtorEq, Nat.reduceEqDiff, Nat.reduceAdd, Nat.reduceMul, Nat.reduceLT, Nat.reduceBEq, Nat.reduceLeDiff, Nat.reduceSub, List.size_toArray] -- r10
  refine ITri.block ?_ -- 2
  refine ITri.loop (fun k : Nat => [(0, .int .i64 life), (1, .slice (some ⟨1, 0, none⟩) nw cw), (2, .slice (some ⟨2, 0, none⟩) nr cr), (10, .int .i64 k)]) (fun _ => []) (fun k => Hp 3 (mA wear runs)) (fun k => k ≤ nr ∧ ∀ j, j < k → inT (nth runs j) 0 ((nw : Int) - 1) = true) (fun k => nr - k) 0 ⟨Nat.zero_le _, fun j hj => by omega⟩ (Wk.sub ⟨rfl, rfl, rfl, rfl, trivial⟩) fun k hk => ?_
  obtain ⟨hk, hj⟩ := hk
  refine ITri.seq ?_
  refine ITri.seq ?_
  refine ITri.reg pokT ?_; simp -implicitDefEqProofs (disch := first | decide | exact of_eq_true (eq_true rfl) | omega | assumption) only [ ↓vcD, vcE, evs, evP, evB, intsOf, fillC, Value.cells, pt, List.append_nil, List.nil_append, List.cons_append, List.length_cons, List.length_nil, List.filter_nil, List.map_nil, ↓List.getElem?_cons_zero, ↓List.getElem?_cons_succ, List.getElem?_cons_zero, List.getElem?_cons_succ, List.set_cons_zero, List.set_cons_succ, Option.join_some, Option.join_none, Option.map_some, List.all_cons, List.all_nil, Value.oneCell', reduceIte, reduceCtorEq, Nat.reduceEqDiff, Nat.reduceAdd, Nat.reduceMul, Nat.reduceLT, Nat.reduceBEq, Nat.reduceLeDiff, Nat.reduceSub, List.size_toArray] -- r11
  refine ITri.condD (by rfl) (fun h1 => ?_) (fun h1 => ?_) -- %63
  · have hkr : k < runs.length := by omega
    refine ITri.skip ?_; simp only [SeqQ_normal, BlkQ_normal]
    refine ITri.seq ?_
    refine ITri.block ?_ -- 3
    refine ITri.seq ?_
    refine ITri.reg pokT ?_; simp -implicitDefEqProofs (disch := first | decide | exact of_eq_true (eq_true rfl) | omega | assumption) only [getN,  ↓vcD, vcE, evs, evP, evB, intsOf, fillC, Value.cells, pt, List.append_nil, List.nil_append, List.cons_append, List.length_cons, List.length_nil, List.filter_nil, List.map_nil, ↓List.getElem?_cons_zero, ↓List.getElem?_cons_succ, List.getElem?_cons_zero, List.getElem?_cons_succ, List.set_cons_zero, List.set_cons_succ, Option.join_some, Option.join_none, Option.map_some, List.all_cons, List.all_nil, Value.oneCell', reduceIte, reduceCtorEq, Nat.reduceEqDiff, Nat.reduceAdd, Nat.reduceMul, Nat.reduceLT, Nat.reduceBEq, Nat.reduceLeDiff, Nat.reduceSub, List.size_toArray] -- r13
    refine ⟨_, _, within_f _ _ _ (sees0 rfl (of_decide_eq_true rfl)), ?_⟩
    cases g5 : inT (nth runs k) 0 ((nw : Int) - 1) with
    | false =>
      have e0 := hF 7 (by decide) (by rw [f1, if_pos (anyB_not (p := fun k => !inT k 0 ((nw : Int) - 1)) hkr (by rw [g5]; rfl))])
      rw [e0]
      try simp -implicitDefEqProofs (disch := first | decide | exact of_eq_true (eq_true rfl) | omega | assumption) only [ ↓vcD, vcE, evs, evP, evB, intsOf, fillC, Value.cells, pt, List.append_nil, List.nil_append, List.cons_append, List.length_cons, List.length_nil, List.filter_nil, List.map_nil, ↓List.getElem?_cons_zero, ↓List.getElem?_cons_succ, List.getElem?_cons_zero, List.getElem?_cons_succ, List.set_cons_zero, List.set_cons_succ, Option.join_some, Option.join_none, Option.map_some, List.all_cons, List.all_nil, Value.oneCell', reduceIte, reduceCtorEq, Nat.reduceEqDiff, Nat.reduceAdd, Nat.reduceMul, Nat.reduceLT, Nat.reduceBEq, Nat.reduceLeDiff, Nat.reduceSub, List.size_toArray]
      refine ITri.cond (v := true) rfl (fun _ => ?_) (fun h => by cases h)
      refine ITri.seq ?_
      refine ITri.reg pokT ?_; simp -implicitDefEqProofs (disch := first | decide | exact of_eq_true (eq_true rfl) | omega | assumption) only [ ↓vcD, vcE, evs, evP, evB, intsOf, fillC, Value.cells, pt, List.append_nil, List.nil_append, List.cons_append, List.length_cons, List.length_nil, List.filter_nil, List.map_nil, ↓List.getElem?_cons_zero, ↓List.getElem?_cons_succ, List.getElem?_cons_zero, List.getElem?_cons_succ, List.set_cons_zero, List.set_cons_succ, Option.join_some, Option.join_none, Option.map_some, List.all_cons, List.all_nil, Value.oneCell', reduceIte, reduceCtorEq, Nat.reduceEqDiff, Nat.reduceAdd, Nat.reduceMul, Nat.reduceLT, Nat.reduceBEq, Nat.reduceLeDiff, Nat.reduceSub, List.size_toArray]
      refine ITri.ret ?_; exact EndR.plain (vs := [.int .i64 0, .int .i64 0, .int .i64 7]) (by simp) (by rfl) (by rfl) (by rfl)
    | true =>
      try simp -implicitDefEqProofs (disch := first | decide | exact of_eq_true (eq_true rfl) | omega | assumption) only [ ↓vcD, vcE, evs, evP, evB, intsOf, fillC, Value.cells, pt, List.append_nil, List.nil_append, List.cons_append, List.length_cons, List.length_nil, List.filter_nil, List.map_nil, ↓List.getElem?_cons_zero, ↓List.getElem?_cons_succ, List.getElem?_cons_zero, List.getElem?_cons_succ, List.set_cons_zero, List.set_cons_succ, Option.join_some, Option.join_none, Option.map_some, List.all_cons, List.all_nil, Value.oneCell', reduceIte, reduceCtorEq, Nat.reduceEqDiff, Nat.reduceAdd, Nat.reduceMul, Nat.reduceLT, Nat.reduceBEq, Nat.reduceLeDiff, Nat.reduceSub, List.size_toArray]
      refine ITri.cond (v := false) rfl (fun h => by cases h) (fun _ => ?_); refine ITri.skip ?_; simp only [SeqQ_normal, BlkQ_normal]
      refine ITri.reg pokT ?_; simp -implicitDefEqProofs (disch := first | decide | exact of_eq_true (eq_true rfl) | omega | assumption) only [ ↓vcD, vcE, evs, evP, evB, intsOf, fillC, Value.cells, pt, List.append_nil, List.nil_append, List.cons_append, List.length_cons, List.length_nil, List.filter_nil, List.map_nil, ↓List.getElem?_cons_zero, ↓List.getElem?_cons_succ, List.getElem?_cons_zero, List.getElem?_cons_succ, List.set_cons_zero, List.set_cons_succ, Option.join_some, Option.join_none, Option.map_some, List.all_cons, List.all_nil, Value.oneCell', reduceIte, reduceCtorEq, Nat.reduceEqDiff, Nat.reduceAdd, Nat.reduceMul, Nat.reduceLT, Nat.reduceBEq, Nat.reduceLeDiff, Nat.reduceSub, List.size_toArray] -- r12
      refine LoopQ.next (k + 1) ⟨by omega, fun j hj2 => ?_⟩ (by omega) (Wk.sub ⟨rfl, rfl, rfl, rfl, trivial⟩)
      rcases Nat.lt_or_ge j k with q | q
      · exact hj j q
      · obtain rfl : j = k := by omega
        exact g5
  refine ITri.exit ?_; try simp -implicitDefEqProofs (disch := first | decide | exact of_eq_true (eq_true rfl) | omega | assumption) only [ ↓vcD, vcE, evs, evP, evB, intsOf, fillC, Value.cells, pt, List.append_nil, List.nil_append, List.cons_append, List.length_cons, List.length_nil, List.filter_nil, List.map_nil, ↓List.getElem?_cons_zero, ↓List.getElem?_cons_succ, List.getElem?_cons_zero, List.getElem?_cons_succ, List.set_cons_zero, List.set_cons_succ, Option.join_some, Option.join_none, Option.map_some, List.all_cons, List.all_nil, Value.oneCell', reduceIte, reduceCtorEq, Nat.reduceEqDiff, Nat.reduceAdd, Nat.reduceMul, Nat.reduceLT, Nat.reduceBEq, Nat.reduceLeDiff, Nat.reduceSub, List.size_toArray]
  rw [if_neg (by rw [anyB_no (p := fun k => !inT k 0 ((nw : Int) - 1)) fun j h => by rw [hj j (by omega)]; rfl]; simp)] at f1
  clear hj hk h1
  obtain ⟨_, _, a3, a4, a5⟩ := ag_ok f1
  have e0 : agF life wear runs = (agP (·.2) life wear runs, agP (·.1) life wear runs, 0) := if_pos f1
  rw [e0]
  have bH := sW_bd (g := (·.2)) (wear := wear) (runs := runs) (fun r hr => by have := a4 r hr; omega) a5
  have bL := sW_bd (g := (·.1)) (wear := wear) (runs := runs) (fun r hr => by have := a4 r hr; omega) a5
  refine ITri.seq ?_
  refine ITri.reg pokT ?_; simp -implicitDefEqProofs (disch := first | decide | exact of_eq_true (eq_true rfl) | omega | assumption) only [ ↓vcD, vcE, evs, evP, evB, intsOf, fillC, Value.cells, pt, List.append_nil, List.nil_append, List.cons_append, List.length_cons, List.length_nil, List.filter_nil, List.map_nil, ↓List.getElem?_cons_zero, ↓List.getElem?_cons_succ, List.getElem?_cons_zero, List.getElem?_cons_succ, List.set_cons_zero, List.set_cons_succ, Option.join_some, Option.join_none, Option.map_some, List.all_cons, List.all_nil, Value.oneCell', reduceIte, reduceCtorEq, Nat.reduceEqDiff, Nat.reduceAdd, Nat.reduceMul, Nat.reduceLT, Nat.reduceBEq, Nat.reduceLeDiff, Nat.reduceSub, List.size_toArray] -- r15
  refine ITri.seq ?_
  refine ITri.seq ?_
  refine ITri.reg pokT ?_; simp -implicitDefEqProofs (disch := first | decide | exact of_eq_true (eq_true rfl) | omega | assumption) only [ ↓vcD, vcE, evs, evP, evB, intsOf, fillC, Value.cells, pt, List.append_nil, List.nil_append, List.cons_append, List.length_cons, List.length_nil, List.filter_nil, List.map_nil, ↓List.getElem?_cons_zero, ↓List.getElem?_cons_succ, List.getElem?_cons_zero, List.getElem?_cons_succ, List.set_cons_zero, List.set_cons_succ, Option.join_some, Option.join_none, Option.map_some, List.all_cons, List.all_nil, Value.oneCell', reduceIte, reduceCtorEq, Nat.reduceEqDiff, Nat.reduceAdd, Nat.reduceMul, Nat.reduceLT, Nat.reduceBEq, Nat.reduceLeDiff, Nat.reduceSub, List.size_toArray] -- r16
  refine ITri.block ?_ -- 4
  have ovb := fun (p : Nat → Bool) (k : Nat) => ov_rng p k
  generalize hpH : (fun k => decide (life - sW (·.2) wear runs (k + 1) < 0)) = pH
  generalize hpL : (fun k => decide (life - sW (·.1) wear runs (k + 1) < 0)) = pL
  refine ITri.loop (fun k : Nat => [(0, .int .i64 life), (1, .slice (some ⟨1, 0, none⟩) nw cw), (2, .slice (some ⟨2, 0, none⟩) nr cr), (11, .int .i64 (ovI pH k)), (12, .int .i64 (ovI pL k)), (13, .int .i64 (sW (·.1) wear runs k)), (14, .int .i64 (sW (·.2) wear runs k)), (15, .int .i64 k)]) (fun _ => []) (fun k => Hp 3 (mA wear runs)) (fun k => k ≤ nr) (fun k => nr - k) 0 (Nat.zero_le _) (Wk.sub ⟨rfl, rfl, rfl, rfl, rfl, rfl, rfl, rfl, trivial⟩) fun k hk => ?_
  refine ITri.seq ?_
  refine ITri.seq ?_
  refine ITri.reg pokT ?_; simp -implicitDefEqProofs (disch := first | decide | exact of_eq_true (eq_true rfl) | omega | assumption) only [ ↓vcD, vcE, evs, evP, evB, intsOf, fillC, Value.cells, pt, List.append_nil, List.nil_append, List.cons_append, List.length_cons, List.length_nil, List.filter_nil, List.map_nil, ↓List.getElem?_cons_zero, ↓List.getElem?_cons_succ, List.getElem?_cons_zero, List.getElem?_cons_succ, List.set_cons_zero, List.set_cons_succ, Option.join_some, Option.join_none, Option.map_some, List.all_cons, List.all_nil, Value.oneCell', reduceIte, reduceCtorEq, Nat.reduceEqDiff, Nat.reduceAdd, Nat.reduceMul, Nat.reduceLT, Nat.reduceBEq, Nat.reduceLeDiff, Nat.reduceSub, List.size_toArray] -- r17
  refine ITri.condD (by rfl) (fun h1 => ?_) (fun h1 => ?_) -- %78
  · have hkr : k < runs.length := by omega
    have hgr : (rows eN runs)[k]? = some (.int .i64 (nth runs k)) := getN hkr
    have hin := a5 _ (nth_mem hkr)
    have hin0 := hin.1
    have hin1 : nth runs k < (nw : Int) := by omega
    have hkw : (nth runs k).toNat < wear.length := by omega
    have ga : (rows eR wear)[(nth runs k).toNat * 2]? = some (.int .i64 (nth wear (nth runs k).toNat).1) := rows_get0 (f := eR) hkw (by omega)
    have gb : (rows eR wear)[(nth runs k).toNat * 2 + 1]? = some (.int .i64 (nth wear (nth runs k).toNat).2) := rows_get (f := eR) (j := 1) hkw (by omega)
    have sH : sW (·.2) wear runs (k + 1) = sW (·.2) wear runs k + (nth wear (nth runs k).toNat).2 := rfl
    have sL : sW (·.1) wear runs (k + 1) = sW (·.1) wear runs k + (nth wear (nth runs k).toNat).1 := rfl
    have b1 := bH (k + 1) (by omega)
    have b2 := bL (k + 1) (by omega)
    have pHk : pH k = decide (life < sW (·.2) wear runs (k + 1)) := by
      rw [← hpH]
      exact decide_eq_decide.2 (by omega)
    have pLk : pL k = decide (life < sW (·.1) wear runs (k + 1)) := by
      rw [← hpL]
      exact decide_eq_decide.2 (by omega)
    have oH : ovI pH (k + 1) = if ovI pH k < 0 ∧ pH k = true then (k : Int) else ovI pH k := rfl
    have oL : ovI pL (k + 1) = if ovI pL k < 0 ∧ pL k = true then (k : Int) else ovI pL k := rfl
    refine ITri.skip ?_; simp only [SeqQ_normal, BlkQ_normal]
    refine ITri.seq ?_
    refine ITri.block ?_ -- 5
    refine ITri.seq ?_
    refine ITri.draw pokT ?_; simp -implicitDefEqProofs (disch := first | decide | exact of_eq_true (eq_true rfl) | omega | assumption) only [hgr, ga, gb,  ↓vcD, vcE, evs, evP, evB, intsOf, fillC, Value.cells, pt, List.append_nil, List.nil_append, List.cons_append, List.length_cons, List.length_nil, List.filter_nil, List.map_nil, ↓List.getElem?_cons_zero, ↓List.getElem?_cons_succ, List.getElem?_cons_zero, List.getElem?_cons_succ, List.set_cons_zero, List.set_cons_succ, Option.join_some, Option.join_none, Option.map_some, List.all_cons, List.all_nil, Value.oneCell', reduceIte, reduceCtorEq, Nat.reduceEqDiff, Nat.reduceAdd, Nat.reduceMul, Nat.reduceLT, Nat.reduceBEq, Nat.reduceLeDiff, Nat.reduceSub, List.size_toArray] -- r19
    rw [← sH, ← sL]
    refine ITri.seq ?_
    refine ITri.cut (fun _ : Unit => [(0, .int .i64 life), (1, .slice (some ⟨1, 0, none⟩) nw cw), (2, .slice (some ⟨2, 0, none⟩) nr cr), (11, .int .i64 (ovI pH (k + 1))), (12, .int .i64 (ovI pL k)), (13, .int .i64 (sW (·.1) wear runs (k + 1))), (14, .int .i64 (sW (·.2) wear runs (k + 1))), (15, .int .i64 k)]) (fun _ => []) (fun _ => Hp 3 (mA wear runs)) (fun _ => True) ?_ (fun _ _ => ?_)
    · refine ITri.seq ?_
      by_cases q1 : life < sW (·.2) wear runs (k + 1)
      · by_cases q2 : ovI pH k < 0
        · rw [if_pos ⟨q2, by rw [pHk, decide_eq_true q1]⟩] at oH
          rw [oH]
          refine ITri.reg pokT ?_; simp -implicitDefEqProofs (disch := first | decide | exact of_eq_true (eq_true rfl) | omega | assumption) only [q1, q2, decide_true,  ↓vcD, vcE, evs, evP, evB, intsOf, fillC, Value.cells, pt, List.append_nil, List.nil_append, List.cons_append, List.length_cons, List.length_nil, List.filter_nil, List.map_nil, ↓List.getElem?_cons_zero, ↓List.getElem?_cons_succ, List.getElem?_cons_zero, List.getElem?_cons_succ, List.set_cons_zero, List.set_cons_succ, Option.join_some, Option.join_none, Option.map_some, List.all_cons, List.all_nil, Value.oneCell', reduceIte, reduceCtorEq, Nat.reduceEqDiff, Nat.reduceAdd, Nat.reduceMul, Nat.reduceLT, Nat.reduceBEq, Nat.reduceLeDiff, Nat.reduceSub, List.size_toArray]
          refine ITri.cond (v := true) rfl (fun _ => ?_) (fun h => by cases h)
          refine ITri.reg pokT ?_; simp -implicitDefEqProofs (disch := first | decide | exact of_eq_true (eq_true rfl) | omega | assumption) only [ ↓vcD, vcE, evs, evP, evB, intsOf, fillC, Value.cells, pt, List.append_nil, List.nil_append, List.cons_append, List.length_cons, List.length_nil, List.filter_nil, List.map_nil, ↓List.getElem?_cons_zero, ↓List.getElem?_cons_succ, List.getElem?_cons_zero, List.getElem?_cons_succ, List.set_cons_zero, List.set_cons_succ, Option.join_some, Option.join_none, Option.map_some, List.all_cons, List.all_nil, Value.oneCell', reduceIte, reduceCtorEq, Nat.reduceEqDiff, Nat.reduceAdd, Nat.reduceMul, Nat.reduceLT, Nat.reduceBEq, Nat.reduceLeDiff, Nat.reduceSub, List.size_toArray]
          exact CutQ.mk () trivial (Wk.sub ⟨rfl, rfl, rfl, rfl, rfl, rfl, rfl, rfl, trivial⟩)
        · rw [if_neg (fun h => q2 h.1)] at oH
          rw [oH]
          refine ITri.reg pokT ?_; simp -implicitDefEqProofs (disch := first | decide | exact of_eq_true (eq_true rfl) | omega | assumption) only [q1, q2, decide_true, decide_false,  ↓vcD, vcE, evs, evP, evB, intsOf, fillC, Value.cells, pt, List.append_nil, List.nil_append, List.cons_append, List.length_cons, List.length_nil, List.filter_nil, List.map_nil, ↓List.getElem?_cons_zero, ↓List.getElem?_cons_succ, List.getElem?_cons_zero, List.getElem?_cons_succ, List.set_cons_zero, List.set_cons_succ, Option.join_some, Option.join_none, Option.map_some, List.all_cons, List.all_nil, Value.oneCell', reduceIte, reduceCtorEq, Nat.reduceEqDiff, Nat.reduceAdd, Nat.reduceMul, Nat.reduceLT, Nat.reduceBEq, Nat.reduceLeDiff, Nat.reduceSub, List.size_toArray]
          refine ITri.cond (v := false) rfl (fun h => by cases h) (fun _ => ?_); refine ITri.skip ?_
          exact CutQ.mk () trivial (Wk.sub ⟨rfl, rfl, rfl, rfl, rfl, rfl, rfl, rfl, trivial⟩)
      · rw [if_neg (fun h => by rw [pHk, decide_eq_false q1] at h; cases h.2)] at oH
        rw [oH]
        refine ITri.reg pokT ?_; simp -implicitDefEqProofs (disch := first | decide | exact of_eq_true (eq_true rfl) | omega | assumption) only [q1, decide_false,  ↓vcD, vcE, evs, evP, evB, intsOf, fillC, Value.cells, pt, List.append_nil, List.nil_append, List.cons_append, List.length_cons, List.length_nil, List.filter_nil, List.map_nil, ↓List.getElem?_cons_zero, ↓List.getElem?_cons_succ, List.getElem?_cons_zero, List.getElem?_cons_succ, List.set_cons_zero, List.set_cons_succ, Option.join_some, Option.join_none, Option.map_some, List.all_cons, List.all_nil, Value.oneCell', reduceIte, reduceCtorEq, Nat.reduceEqDiff, Nat.reduceAdd, Nat.reduceMul, Nat.reduceLT, Nat.reduceBEq, Nat.reduceLeDiff, Nat.reduceSub, List.size_toArray]
        refine ITri.cond (v := false) rfl (fun h => by cases h) (fun _ => ?_); refine ITri.skip ?_
        exact CutQ.mk () trivial (Wk.sub ⟨rfl, rfl, rfl, rfl, rfl, rfl, rfl, rfl, trivial⟩)
    refine ITri.cut (fun _ : Unit => [(0, .int .i64 life), (1, .slice (some ⟨1, 0, none⟩) nw cw), (2, .slice (some ⟨2, 0, none⟩) nr cr), (11, .int .i64 (ovI pH (k + 1))), (12, .int .i64 (ovI pL (k + 1))), (13, .int .i64 (sW (·.1) wear runs (k + 1))), (14, .int .i64 (sW (·.2) wear runs (k + 1))), (15, .int .i64 k)]) (fun _ => []) (fun _ => Hp 3 (mA wear runs)) (fun _ => True) ?_ (fun _ _ => ?_)
    · refine ITri.seq ?_
      by_cases q1 : life < sW (·.1) wear runs (k + 1)
      · by_cases q2 : ovI pL k < 0
        · rw [if_pos ⟨q2, by rw [pLk, decide_eq_true q1]⟩] at oL
          rw [oL]
          refine ITri.reg pokT ?_; simp -implicitDefEqProofs (disch := first | decide | exact of_eq_true (eq_true rfl) | omega | assumption) only [q1, q2, decide_true,  ↓vcD, vcE, evs, evP, evB, intsOf, fillC, Value.cells, pt, List.append_nil, List.nil_append, List.cons_append, List.length_cons, List.length_nil, List.filter_nil, List.map_nil, ↓List.getElem?_cons_zero, ↓List.getElem?_cons_succ, List.getElem?_cons_zero, List.getElem?_cons_succ, List.set_cons_zero, List.set_cons_succ, Option.join_some, Option.join_none, Option.map_some, List.all_cons, List.all_nil, Value.oneCell', reduceIte, reduceCtorEq, Nat.reduceEqDiff, Nat.reduceAdd, Nat.reduceMul, Nat.reduceLT, Nat.reduceBEq, Nat.reduceLeDiff, Nat.reduceSub, List.size_toArray]
          refine ITri.cond (v := true) rfl (fun _ => ?_) (fun h => by cases h)
          refine ITri.reg pokT ?_; simp -implicitDefEqProofs (disch := first | decide | exact of_eq_true (eq_true rfl) | omega | assumption) only [ ↓vcD, vcE, evs, evP, evB, intsOf, fillC, Value.cells, pt, List.append_nil, List.nil_append, List.cons_append, List.length_cons, List.length_nil, List.filter_nil, List.map_nil, ↓List.getElem?_cons_zero, ↓List.getElem?_cons_succ, List.getElem?_cons_zero, List.getElem?_cons_succ, List.set_cons_zero, List.set_cons_succ, Option.join_some, Option.join_none, Option.map_some, List.all_cons, List.all_nil, Value.oneCell', reduceIte, reduceCtorEq, Nat.reduceEqDiff, Nat.reduceAdd, Nat.reduceMul, Nat.reduceLT, Nat.reduceBEq, Nat.reduceLeDiff, Nat.reduceSub, List.size_toArray]
          exact CutQ.mk () trivial (Wk.sub ⟨rfl, rfl, rfl, rfl, rfl, rfl, rfl, rfl, trivial⟩)
        · rw [if_neg (fun h => q2 h.1)] at oL
          rw [oL]
          refine ITri.reg pokT ?_; simp -implicitDefEqProofs (disch := first | decide | exact of_eq_true (eq_true rfl) | omega | assumption) only [q1, q2, decide_true, decide_false,  ↓vcD, vcE, evs, evP, evB, intsOf, fillC, Value.cells, pt, List.append_nil, List.nil_append, List.cons_append, List.length_cons, List.length_nil, List.filter_nil, List.map_nil, ↓List.getElem?_cons_zero, ↓List.getElem?_cons_succ, List.getElem?_cons_zero, List.getElem?_cons_succ, List.set_cons_zero, List.set_cons_succ, Option.join_some, Option.join_none, Option.map_some, List.all_cons, List.all_nil, Value.oneCell', reduceIte, reduceCtorEq, Nat.reduceEqDiff, Nat.reduceAdd, Nat.reduceMul, Nat.reduceLT, Nat.reduceBEq, Nat.reduceLeDiff, Nat.reduceSub, List.size_toArray]
          refine ITri.cond (v := false) rfl (fun h => by cases h) (fun _ => ?_); refine ITri.skip ?_
          exact CutQ.mk () trivial (Wk.sub ⟨rfl, rfl, rfl, rfl, rfl, rfl, rfl, rfl, trivial⟩)
      · rw [if_neg (fun h => by rw [pLk, decide_eq_false q1] at h; cases h.2)] at oL
        rw [oL]
        refine ITri.reg pokT ?_; simp -implicitDefEqProofs (disch := first | decide | exact of_eq_true (eq_true rfl) | omega | assumption) only [q1, decide_false,  ↓vcD, vcE, evs, evP, evB, intsOf, fillC, Value.cells, pt, List.append_nil, List.nil_append, List.cons_append, List.length_cons, List.length_nil, List.filter_nil, List.map_nil, ↓List.getElem?_cons_zero, ↓List.getElem?_cons_succ, List.getElem?_cons_zero, List.getElem?_cons_succ, List.set_cons_zero, List.set_cons_succ, Option.join_some, Option.join_none, Option.map_some, List.all_cons, List.all_nil, Value.oneCell', reduceIte, reduceCtorEq, Nat.reduceEqDiff, Nat.reduceAdd, Nat.reduceMul, Nat.reduceLT, Nat.reduceBEq, Nat.reduceLeDiff, Nat.reduceSub, List.size_toArray]
        refine ITri.cond (v := false) rfl (fun h => by cases h) (fun _ => ?_); refine ITri.skip ?_
        exact CutQ.mk () trivial (Wk.sub ⟨rfl, rfl, rfl, rfl, rfl, rfl, rfl, rfl, trivial⟩)
    refine ITri.reg pokT ?_; simp -implicitDefEqProofs (disch := first | decide | exact of_eq_true (eq_true rfl) | omega | assumption) only [ ↓vcD, vcE, evs, evP, evB, intsOf, fillC, Value.cells, pt, List.append_nil, List.nil_append, List.cons_append, List.length_cons, List.length_nil, List.filter_nil, List.map_nil, ↓List.getElem?_cons_zero, ↓List.getElem?_cons_succ, List.getElem?_cons_zero, List.getElem?_cons_succ, List.set_cons_zero, List.set_cons_succ, Option.join_some, Option.join_none, Option.map_some, List.all_cons, List.all_nil, Value.oneCell', reduceIte, reduceCtorEq, Nat.reduceEqDiff, Nat.reduceAdd, Nat.reduceMul, Nat.reduceLT, Nat.reduceBEq, Nat.reduceLeDiff, Nat.reduceSub, List.size_toArray] -- r18
    exact LoopQ.next (k + 1) (by omega) (by omega) (Wk.sub ⟨rfl, rfl, rfl, rfl, rfl, rfl, rfl, rfl, trivial⟩)
  refine ITri.exit ?_; try simp -implicitDefEqProofs (disch := first | decide | exact of_eq_true (eq_true rfl) | omega | assumption) only [ ↓vcD, vcE, evs, evP, evB, intsOf, fillC, Value.cells, pt, List.append_nil, List.nil_append, List.cons_append, List.length_cons, List.length_nil, List.filter_nil, List.map_nil, ↓List.getElem?_cons_zero, ↓List.getElem?_cons_succ, List.getElem?_cons_zero, List.getElem?_cons_succ, List.set_cons_zero, List.set_cons_succ, Option.join_some, Option.join_none, Option.map_some, List.all_cons, List.all_nil, Value.oneCell', reduceIte, reduceCtorEq, Nat.reduceEqDiff, Nat.reduceAdd, Nat.reduceMul, Nat.reduceLT, Nat.reduceBEq, Nat.reduceLeDiff, Nat.reduceSub, List.size_toArray]
  obtain rfl : nr = k := by omega
  refine ITri.seq ?_
  refine ITri.reg pokT ?_; simp -implicitDefEqProofs (disch := first | decide | exact of_eq_true (eq_true rfl) | omega | assumption) only [ ↓vcD, vcE, evs, evP, evB, intsOf, fillC, Value.cells, pt, List.append_nil, List.nil_append, List.cons_append, List.length_cons, List.length_nil, List.filter_nil, List.map_nil, ↓List.getElem?_cons_zero, ↓List.getElem?_cons_succ, List.getElem?_cons_zero, List.getElem?_cons_succ, List.set_cons_zero, List.set_cons_succ, Option.join_some, Option.join_none, Option.map_some, List.all_cons, List.all_nil, Value.oneCell', reduceIte, reduceCtorEq, Nat.reduceEqDiff, Nat.reduceAdd, Nat.reduceMul, Nat.reduceLT, Nat.reduceBEq, Nat.reduceLeDiff, Nat.reduceSub, List.size_toArray] -- r24
  unfold agP
  rw [hpH, hpL, hr]
  refine ITri.ret ?_; exact EndR.plain (vs := [.int .i64 _, .int .i64 _, .int .i64 0]) (by simp) (by rfl) (by rfl) (by rfl)
theorem refAged_f (nw nr : Nat) (life : Int) (wear : List Rg) (runs : List Int) (hw : wear.length = nw) (hr : runs.length = nr) (hb : nw ≤ 1000000) (hb2 : nr ≤ 1000000) {h : AH} {s t : Value} (h0 : h.sees 0 = true) (r : Rd h s nw (rows eR wear)) (r2 : Rd h t nr (rows eN runs)) :
    Fc Try.prog 19 [.int .i64 life, s, t] h (v3 (agF life wear runs)) h :=
  Fc.lift2 (mk := fun ss => [.int .i64 life] ++ ss ++ []) (mkv := fun _ => v3 (agF life wear runs)) (os := []) (fun c d => refAged_c nw c nr d life wear runs hw hr hb hb2) (MkL.mid rfl rfl) (MkV.const rfl) (rows_no (f := eR) wear) (rows_no (f := eN) runs) (fun o ho => by cases ho) h0 r r2
end Go.Proofs.Ytfmcdbcoljpomaa
