/-
  Chapter 11, by names: the reference's alarms.
-/
import Derived.Test.YtfmcdbcoljpomaaShopF4
set_option linter.unusedSimpArgs false
set_option linter.unusedVariables false
namespace Go.Vm
open Go Go.RowKit
/-- As Fc.lift, at known rooms. -/
theorem Fc.liftP {P : Program} {f : Nat} {cs : List Rs1} {os : List Ns1} {mk : List Value → List Value} {mkv : List Value → Value} {ps : List (Nat × Nat × Bool)} {caps : List Nat}
    (F : Fc P f (mk (slicesAt 1 cs caps)) (Hp (cs.length + 1) (none :: rsL cs)) (mkv (newsAt (cs.length + 1) os)) (Hp (cs.length + 1) ((none :: rsL cs) ++ (nsO os).map some)))
    (hmk : MkL mk) (hmv : MkV mkv) (hno : ∀ p ∈ cs, noAddrL p.2 = true) (hos : ∀ o ∈ os, noAddrL o.2.1 = true) {h : AH} (h0 : h.sees 0 = true) (hp : PlOK h ps cs caps) :
    Fc P f (mk (placesV ps cs caps)) h (mkv (newsAt h.next os)) (h.news (nsO os)) := by
  obtain ⟨l1, l2⟩ := hp.len
  have hlen : (none :: rsL cs).length = cs.length + 1 := by simp [rsL]
  obtain ⟨q1, q2, q3⟩ := PlOK.fr (ψ := psL ((0, 0, false) :: ps)) (B := cs.length + 1) 1 hp hno (fun j p hj => by unfold psL; rw [show 1 + j = j + 1 from by omega, List.getElem?_cons_succ, hj]; rfl) (by omega)
  have F' := F
  rw [← hlen] at F'
  have hosO : ∀ o ∈ nsO os, ∃ x ∈ os, o = .cells ⟨x.2.1, x.2.2, true⟩ := fun o ho => by
    obtain ⟨x, hx, rfl⟩ := List.mem_map.1 ho
    exact ⟨x, hx, rfl⟩
  refine Fc.frameL F' ((0, 0, false) :: ps) ?_ ?_ ?_ ?_ (fun o ho => ?_) ?_ ?_ ?_
  · rw [List.all_eq_true]
    intro o ho
    obtain ⟨x, hx, rfl⟩ := hosO o ho
    rfl
  · rw [hlen]
    exact ⟨fr_none h0, q1⟩
  · rw [hlen]
    exact hmk.ok _ _ _ q3
  · rw [hlen]
    exact hmv.ok _ _ _ (newsAt_ok os _ (Nat.le_refl _) (by simp [nsO]))
  · obtain ⟨x, hx, rfl⟩ := hosO o ho
    exact okML_noAddr _ _ _ (hos x hx)
  · rw [hmk.mw, q2]
  · rw [hlen, hmv.mw, newsAt_mw os _ (Nat.le_refl _), Nat.sub_self, Nat.add_zero]
  · congr 1
    unfold nsO
    rw [List.map_map]
    refine List.map_congr_left fun x hx => ?_
    simp only [Function.comp, mwO, mwL_noAddr _ _ (hos x hx)]
/-- Two slices with rooms that are known. -/
theorem Fc.lift2o {P : Program} {f n c m d : Nat} {cs ds : List Value} {os : List Ns1} {mk : List Value → List Value} {mkv : List Value → Value}
    (F : Fc P f (mk [.slice (some ⟨1, 0, none⟩) n c, .slice (some ⟨2, 0, none⟩) m d]) (Hp 3 [none, some (.cells ⟨cs, 0, false⟩), some (.cells ⟨ds, 0, false⟩)]) (mkv (newsAt 3 os)) (Hp 3 ([none, some (.cells ⟨cs, 0, false⟩), some (.cells ⟨ds, 0, false⟩)] ++ (nsO os).map some)))
    (hmk : MkL mk) (hmv : MkV mkv) (hno : noAddrL cs = true) (hno2 : noAddrL ds = true) (hos : ∀ o ∈ os, noAddrL o.2.1 = true) {h : AH} {k sz k2 sz2 : Nat} {op op2 : Bool} (h0 : h.sees 0 = true) (hg : h.get k = some (.cells ⟨cs, sz, op⟩)) (hg2 : h.get k2 = some (.cells ⟨ds, sz2, op2⟩)) :
    Fc P f (mk [.slice (some ⟨k, 0, none⟩) n c, .slice (some ⟨k2, 0, none⟩) m d]) h (mkv (newsAt h.next os)) (h.news (nsO os)) :=
  Fc.liftP (cs := [(n, cs), (m, ds)]) (caps := [c, d]) (ps := [(k, 0, false), (k2, 0, false)]) F hmk hmv (fun p hp => by
    simp at hp
    rcases hp with rfl | rfl
    · exact hno
    · exact hno2) hos h0 ⟨⟨get_sees hg, ⟨_, hg, ⟨[], by simp⟩, fun _ => Nat.zero_le _⟩⟩, ⟨(fun e => by cases e), ⟨⟨get_sees hg2, ⟨_, hg2, ⟨[], by simp⟩, fun _ => Nat.zero_le _⟩⟩, ⟨(fun e => by cases e), trivial⟩⟩⟩⟩
theorem appK_zo {h : AH} {sz bytes k o n k2 o2 c2 : Nat} {K : Value → AH → Prop} : appK h sz bytes (.slice (some ⟨k, o, none⟩) n openB) (.slice (some ⟨k2, o2, none⟩) 0 c2) K = K (.slice (some ⟨k, o, none⟩) n openB) h := by
  unfold appK
  have e : sCells h sz (.slice (some ⟨k2, o2, none⟩) 0 c2) = some [] := by unfold sCells; exact if_pos rfl
  rw [e]
  simp only [slen_slice]
  exact propext ⟨fun h => (h.1 trivial).2, fun h => ⟨fun _ => ⟨.inr ⟨Nat.le_refl _, rfl⟩, h⟩, fun e => absurd rfl e⟩⟩
end Go.Vm
namespace Go.Proofs.Ytfmcdbcoljpomaa
open Go.RowKit Go.Vm
set_option maxRecDepth 100000
theorem u_slI : Try.prog.underlying 25 = some (.slice 3) := by kernel_rfl
theorem i_I : Try.prog.info? 3 = some ((Try.prog.info? 3).get rfl) := by kernel_rfl
theorem sz_I : ((Try.prog.info? 3).get rfl).size = 1 := by kernel_rfl
theorem chOK_ok {c : Int} {rs : List Ru} (h : chOK c rs = true) : (-1000000 ≤ c ∧ c ≤ 1000000) ∧ rs.length ≤ 8 ∧ ∀ r ∈ rs, ruOK r = true := by
  unfold chOK at h
  simp only [Bool.and_eq_true, decide_eq_true_eq, List.all_eq_true] at h
  exact ⟨inT_ok h.1.1, h.1.2, h.2⟩
theorem alE_ok {c : Int} {rs : List Ru} {vs : List Int} (h : alE c rs vs = 0) : chOK c rs = true ∧ vs.length ≤ 200 ∧ ∀ v ∈ vs, -1000000 ≤ v ∧ v ≤ 1000000 := by
  unfold alE at h
  split at h
  · exact absurd h (by decide)
  · rename_i h1
    split at h
    · exact absurd h (by decide)
    · rename_i h2
      split at h
      · exact absurd h (by decide)
      · rename_i h3
        refine ⟨by simpa using h1, by omega, fun v hv => ?_⟩
        have h4 : vs.all (fun v => inT v (-1000000) 1000000) = true := by simpa using h3
        exact inT_ok (List.all_eq_true.1 h4 v hv)
theorem alF_len (c : Int) (rs : List Ru) (vs : List Int) : ∀ m, (alF c rs vs m).length ≤ m * (2 * rs.length)
  | 0 => by simp [alF]
  | m + 1 => by
    have h1 := alF_len c rs vs m
    have h2 := atF_len c rs (vs.take (m + 1)) rs.length
    rw [alF, List.length_append, Nat.add_mul]
    omega
def raV (L : List Al) (e : Int) : Value := if e = 0 then .tuple #[.slice (some ⟨3, 0, none⟩) L.length openB, .int .i64 0] else .tuple #[.slice none 0 0, .int .i64 e]
def raO (L : List Al) (e : Int) : List AObj := if e = 0 then [.cells ⟨rows eU L, 3, true⟩] else []
theorem refAlarms_c (n c m d : Nat) (cen : Int) (rs : List Ru) (vs : List Int) (hn : rs.length = n) (hb : n ≤ 1000000) (hm : vs.length = m) (hb2 : m ≤ 1000000) (hd : d < openB → m ≤ d) :
    Fc Try.prog 15 [.agg #[.int .i64 cen, .slice (some ⟨1, 0, none⟩) n c], .slice (some ⟨2, 0, none⟩) m d] (Hp 3 [none, some (.cells ⟨rows eU rs, 0, false⟩), some (.cells ⟨rows eN vs, 0, false⟩)]) (raV (alF cen rs vs m) (alE cen rs vs)) ((Hp 3 [none, some (.cells ⟨rows eU rs, 0, false⟩), some (.cells ⟨rows eN vs, 0, false⟩)]).news (raO (alF cen rs vs m) (alE cen rs vs))) := by
  refine Fc.introR fn15 (by simp) rfl rfl ?_; simp only [argF]
  refine ITri.seq ?_
  refine ITri.reg pokT ?_; simp -implicitDefEqProofs (disch := first | decide | exact of_eq_true (eq_true rfl) | omega | assumption) only [ ↓vcD, vcE, evs, evP, evB, intsOf, fillC, Value.cells, pt, List.append_nil, List.nil_append, List.cons_append, List.length_cons, List.length_nil, List.filter_nil, List.map_nil, ↓List.getElem?_cons_zero, ↓List.getElem?_cons_succ, List.getElem?_cons_zero, List.getElem?_cons_succ, List.set_cons_zero, List.set_cons_succ, Option.join_some, Option.join_none, Option.map_some, List.all_cons, List.all_nil, Value.oneCell', reduceIte, reduceCtorEq, Nat.reduceEqDiff, Nat.reduceAdd, Nat.reduceMul, Nat.reduceLT, Nat.reduceBEq, Nat.reduceLeDiff, Nat.reduceSub, List.size_toArray] -- r0
  refine ITri.seq ?_
  refine ITri.seq ?_
  refine ITri.reg pokT ?_; simp -implicitDefEqProofs (disch := first | decide | exact of_eq_true (eq_true rfl) | omega | assumption) only [ ↓vcD, vcE, evs, evP, evB, intsOf, fillC, Value.cells, pt, List.append_nil, List.nil_append, List.cons_append, List.length_cons, List.length_nil, List.filter_nil, List.map_nil, ↓List.getElem?_cons_zero, ↓List.getElem?_cons_succ, List.getElem?_cons_zero, List.getElem?_cons_succ, List.set_cons_zero, List.set_cons_succ, Option.join_some, Option.join_none, Option.map_some, List.all_cons, List.all_nil, Value.oneCell', reduceIte, reduceCtorEq, Nat.reduceEqDiff, Nat.reduceAdd, Nat.reduceMul, Nat.reduceLT, Nat.reduceBEq, Nat.reduceLeDiff, Nat.reduceSub, List.size_toArray] -- r1
  refine ⟨_, _, refChart_f cen hn hb (sees0 rfl (of_decide_eq_true rfl)) (Rd.hq rfl rfl), ?_⟩
  try simp -implicitDefEqProofs (disch := first | decide | exact of_eq_true (eq_true rfl) | omega | assumption) only [ ↓vcD, vcE, evs, evP, evB, intsOf, fillC, Value.cells, pt, List.append_nil, List.nil_append, List.cons_append, List.length_cons, List.length_nil, List.filter_nil, List.map_nil, ↓List.getElem?_cons_zero, ↓List.getElem?_cons_succ, List.getElem?_cons_zero, List.getElem?_cons_succ, List.set_cons_zero, List.set_cons_succ, Option.join_some, Option.join_none, Option.map_some, List.all_cons, List.all_nil, Value.oneCell', reduceIte, reduceCtorEq, Nat.reduceEqDiff, Nat.reduceAdd, Nat.reduceMul, Nat.reduceLT, Nat.reduceBEq, Nat.reduceLeDiff, Nat.reduceSub, List.size_toArray]
  cases hch : chOK cen rs with
  | false =>
    have e0 : alE cen rs vs = 2 := if_pos hch
    rw [e0]
    refine ITri.cond (v := true) rfl (fun _ => ?_) (fun h => by cases h)
    refine ITri.seq ?_
    refine ITri.reg pokT ?_; simp -implicitDefEqProofs (disch := first | decide | exact of_eq_true (eq_true rfl) | omega | assumption) only [ ↓vcD, vcE, evs, evP, evB, intsOf, fillC, Value.cells, pt, List.append_nil, List.nil_append, List.cons_append, List.length_cons, List.length_nil, List.filter_nil, List.map_nil, ↓List.getElem?_cons_zero, ↓List.getElem?_cons_succ, List.getElem?_cons_zero, List.getElem?_cons_succ, List.set_cons_zero, List.set_cons_succ, Option.join_some, Option.join_none, Option.map_some, List.all_cons, List.all_nil, Value.oneCell', reduceIte, reduceCtorEq, Nat.reduceEqDiff, Nat.reduceAdd, Nat.reduceMul, Nat.reduceLT, Nat.reduceBEq, Nat.reduceLeDiff, Nat.reduceSub, List.size_toArray]
    refine ITri.ret ?_; exact EndR.plain (vs := [.slice none 0 0, .int .i64 2]) (by simp) (by rfl) (by rfl) (by rfl)
  | true =>
  have f1 : alE cen rs vs = _ := if_neg (by rw [hch]; simp)
  refine ITri.cond (v := false) rfl (fun h => by cases h) (fun _ => ?_); refine ITri.skip ?_; simp only [SeqQ_normal, BlkQ_normal]
  refine ITri.seq ?_
  refine ITri.seq ?_
  refine ITri.reg pokT ?_; simp -implicitDefEqProofs (disch := first | decide | exact of_eq_true (eq_true rfl) | omega | assumption) only [ ↓vcD, vcE, evs, evP, evB, intsOf, fillC, Value.cells, pt, List.append_nil, List.nil_append, List.cons_append, List.length_cons, List.length_nil, List.filter_nil, List.map_nil, ↓List.getElem?_cons_zero, ↓List.getElem?_cons_succ, List.getElem?_cons_zero, List.getElem?_cons_succ, List.set_cons_zero, List.set_cons_succ, Option.join_some, Option.join_none, Option.map_some, List.all_cons, List.all_nil, Value.oneCell', reduceIte, reduceCtorEq, Nat.reduceEqDiff, Nat.reduceAdd, Nat.reduceMul, Nat.reduceLT, Nat.reduceBEq, Nat.reduceLeDiff, Nat.reduceSub, List.size_toArray] -- r3
  refine ITri.condD (by rfl) (fun h1 => ?_) (fun h1 => ?_)
  · have e0 : alE cen rs vs = 5 := by rw [f1]; exact if_pos (by omega)
    rw [e0]
    refine ITri.seq ?_
    refine ITri.reg pokT ?_; simp -implicitDefEqProofs (disch := first | decide | exact of_eq_true (eq_true rfl) | omega | assumption) only [ ↓vcD, vcE, evs, evP, evB, intsOf, fillC, Value.cells, pt, List.append_nil, List.nil_append, List.cons_append, List.length_cons, List.length_nil, List.filter_nil, List.map_nil, ↓List.getElem?_cons_zero, ↓List.getElem?_cons_succ, List.getElem?_cons_zero, List.getElem?_cons_succ, List.set_cons_zero, List.set_cons_succ, Option.join_some, Option.join_none, Option.map_some, List.all_cons, List.all_nil, Value.oneCell', reduceIte, reduceCtorEq, Nat.reduceEqDiff, Nat.reduceAdd, Nat.reduceMul, Nat.reduceLT, Nat.reduceBEq, Nat.reduceLeDiff, Nat.reduceSub, List.size_toArray]
    refine ITri.ret ?_; exact EndR.plain (vs := [.slice none 0 0, .int .i64 5]) (by simp) (by rfl) (by rfl) (by rfl)
  rw [if_neg (show ¬ 200 < vs.length by omega)] at f1
  refine ITri.skip ?_; simp only [SeqQ_normal, BlkQ_normal]
  refine ITri.seq ?_
  refine ITri.seq ?_
  refine ITri.reg pokT ?_; simp -implicitDefEqProofs (disch := first | decide | exact of_eq_true (eq_true rfl) | omega | assumption) only [ ↓vcD, vcE, evs, evP, evB, intsOf, fillC, Value.cells, pt, List.append_nil, List.nil_append, List.cons_append, List.length_cons, List.length_nil, List.filter_nil, List.map_nil, ↓List.getElem?_cons_zero, ↓List.getElem?_cons_succ, List.getElem?_cons_zero, List.getElem?_cons_succ, List.set_cons_zero, List.set_cons_succ, Option.join_some, Option.join_none, Option.map_some, List.all_cons, List.all_nil, Value.oneCell', reduceIte, reduceCtorEq, Nat.reduceEqDiff, Nat.reduceAdd, Nat.reduceMul, Nat.reduceLT, Nat.reduceBEq, Nat.reduceLeDiff, Nat.reduceSub, List.size_toArray] -- r5
  refine ITri.block ?_
  refine ITri.loop (fun k : Nat => [(1, .slice (some ⟨2, 0, none⟩) m d), (2, pt 3), (6, .int .i64 k)]) (fun _ => []) (fun k => Hp 3 [none, some (.cells ⟨rows eU rs, 0, false⟩), some (.cells ⟨rows eN vs, 0, false⟩), some (.cells ⟨[.int .i64 cen, .slice (some ⟨1, 0, none⟩) n c], 1, false⟩)]) (fun k => k ≤ m ∧ (vs.take k).all (fun v => inT v (-1000000) 1000000) = true) (fun k => m - k) 0 ⟨Nat.zero_le _, rfl⟩ (Wk.sub ⟨rfl, rfl, rfl, trivial⟩) fun k hk => ?_
  obtain ⟨hk, hall⟩ := hk
  refine ITri.seq ?_
  refine ITri.seq ?_
  refine ITri.reg pokT ?_; simp -implicitDefEqProofs (disch := first | decide | exact of_eq_true (eq_true rfl) | omega | assumption) only [ ↓vcD, vcE, evs, evP, evB, intsOf, fillC, Value.cells, pt, List.append_nil, List.nil_append, List.cons_append, List.length_cons, List.length_nil, List.filter_nil, List.map_nil, ↓List.getElem?_cons_zero, ↓List.getElem?_cons_succ, List.getElem?_cons_zero, List.getElem?_cons_succ, List.set_cons_zero, List.set_cons_succ, Option.join_some, Option.join_none, Option.map_some, List.all_cons, List.all_nil, Value.oneCell', reduceIte, reduceCtorEq, Nat.reduceEqDiff, Nat.reduceAdd, Nat.reduceMul, Nat.reduceLT, Nat.reduceBEq, Nat.reduceLeDiff, Nat.reduceSub, List.size_toArray] -- r6
  refine ITri.condD (by rfl) (fun h2 => ?_) (fun h2 => ?_)
  · have hkr : k < vs.length := by omega
    obtain ⟨v, hvk⟩ : ∃ v, nth vs k = v := ⟨_, rfl⟩
    have gv : (rows eN vs)[k]? = some (.int .i64 v) := by rw [getN hkr, hvk]
    have hstep : (vs.take (k + 1)).all (fun v => inT v (-1000000) 1000000) = inT v (-1000000) 1000000 := by
      rw [List.take_add_one, get_nth hkr, List.all_append, hall, hvk]
      simp
    refine ITri.skip ?_; simp only [SeqQ_normal, BlkQ_normal]
    refine ITri.seq ?_
    refine ITri.block ?_
    refine ITri.seq ?_
    refine ITri.reg pokT ?_; simp -implicitDefEqProofs (disch := first | decide | exact of_eq_true (eq_true rfl) | omega | assumption) only [gv,  ↓vcD, vcE, evs, evP, evB, intsOf, fillC, Value.cells, pt, List.append_nil, List.nil_append, List.cons_append, List.length_cons, List.length_nil, List.filter_nil, List.map_nil, ↓List.getElem?_cons_zero, ↓List.getElem?_cons_succ, List.getElem?_cons_zero, List.getElem?_cons_succ, List.set_cons_zero, List.set_cons_succ, Option.join_some, Option.join_none, Option.map_some, List.all_cons, List.all_nil, Value.oneCell', reduceIte, reduceCtorEq, Nat.reduceEqDiff, Nat.reduceAdd, Nat.reduceMul, Nat.reduceLT, Nat.reduceBEq, Nat.reduceLeDiff, Nat.reduceSub, List.size_toArray] -- r8
    refine ⟨_, _, within_f _ _ _ (sees0 rfl (of_decide_eq_true rfl)), ?_⟩
    try simp -implicitDefEqProofs (disch := first | decide | exact of_eq_true (eq_true rfl) | omega | assumption) only [ ↓vcD, vcE, evs, evP, evB, intsOf, fillC, Value.cells, pt, List.append_nil, List.nil_append, List.cons_append, List.length_cons, List.length_nil, List.filter_nil, List.map_nil, ↓List.getElem?_cons_zero, ↓List.getElem?_cons_succ, List.getElem?_cons_zero, List.getElem?_cons_succ, List.set_cons_zero, List.set_cons_succ, Option.join_some, Option.join_none, Option.map_some, List.all_cons, List.all_nil, Value.oneCell', reduceIte, reduceCtorEq, Nat.reduceEqDiff, Nat.reduceAdd, Nat.reduceMul, Nat.reduceLT, Nat.reduceBEq, Nat.reduceLeDiff, Nat.reduceSub, List.size_toArray]
    refine ITri.cond (v := !inT v (-1000000) 1000000) rfl (fun h => ?_) (fun h => ?_)
    · have h3 : inT v (-1000000) 1000000 = false := by simpa using h
      have h4 : vs.all (fun v => inT v (-1000000) 1000000) = false := by
        rw [← Bool.not_eq_true, List.all_eq_true]
        intro hh
        have := hh _ (nth_mem hkr)
        rw [hvk, h3] at this
        cases this
      have e0 : alE cen rs vs = 3 := by rw [f1]; exact if_pos h4
      rw [e0]
      refine ITri.seq ?_
      refine ITri.reg pokT ?_; simp -implicitDefEqProofs (disch := first | decide | exact of_eq_true (eq_true rfl) | omega | assumption) only [ ↓vcD, vcE, evs, evP, evB, intsOf, fillC, Value.cells, pt, List.append_nil, List.nil_append, List.cons_append, List.length_cons, List.length_nil, List.filter_nil, List.map_nil, ↓List.getElem?_cons_zero, ↓List.getElem?_cons_succ, List.getElem?_cons_zero, List.getElem?_cons_succ, List.set_cons_zero, List.set_cons_succ, Option.join_some, Option.join_none, Option.map_some, List.all_cons, List.all_nil, Value.oneCell', reduceIte, reduceCtorEq, Nat.reduceEqDiff, Nat.reduceAdd, Nat.reduceMul, Nat.reduceLT, Nat.reduceBEq, Nat.reduceLeDiff, Nat.reduceSub, List.size_toArray]
      refine ITri.ret ?_; exact EndR.plain (vs := [.slice none 0 0, .int .i64 3]) (by simp) (by rfl) (by rfl) (by rfl)
    have h3 : inT v (-1000000) 1000000 = true := by simpa using h
    refine ITri.skip ?_; simp only [SeqQ_normal, BlkQ_normal]
    refine ITri.reg pokT ?_; simp -implicitDefEqProofs (disch := first | decide | exact of_eq_true (eq_true rfl) | omega | assumption) only [ ↓vcD, vcE, evs, evP, evB, intsOf, fillC, Value.cells, pt, List.append_nil, List.nil_append, List.cons_append, List.length_cons, List.length_nil, List.filter_nil, List.map_nil, ↓List.getElem?_cons_zero, ↓List.getElem?_cons_succ, List.getElem?_cons_zero, List.getElem?_cons_succ, List.set_cons_zero, List.set_cons_succ, Option.join_some, Option.join_none, Option.map_some, List.all_cons, List.all_nil, Value.oneCell', reduceIte, reduceCtorEq, Nat.reduceEqDiff, Nat.reduceAdd, Nat.reduceMul, Nat.reduceLT, Nat.reduceBEq, Nat.reduceLeDiff, Nat.reduceSub, List.size_toArray]
    exact LoopQ.next (k + 1) ⟨by omega, by rw [hstep, h3]⟩ (by omega) (Wk.sub ⟨rfl, rfl, rfl, trivial⟩)
  refine ITri.exit ?_; try simp -implicitDefEqProofs (disch := first | decide | exact of_eq_true (eq_true rfl) | omega | assumption) only [ ↓vcD, vcE, evs, evP, evB, intsOf, fillC, Value.cells, pt, List.append_nil, List.nil_append, List.cons_append, List.length_cons, List.length_nil, List.filter_nil, List.map_nil, ↓List.getElem?_cons_zero, ↓List.getElem?_cons_succ, List.getElem?_cons_zero, List.getElem?_cons_succ, List.set_cons_zero, List.set_cons_succ, Option.join_some, Option.join_none, Option.map_some, List.all_cons, List.all_nil, Value.oneCell', reduceIte, reduceCtorEq, Nat.reduceEqDiff, Nat.reduceAdd, Nat.reduceMul, Nat.reduceLT, Nat.reduceBEq, Nat.reduceLeDiff, Nat.reduceSub, List.size_toArray]
  have hkm : k = vs.length := by omega
  rw [hkm, List.take_length] at hall
  have e0 : alE cen rs vs = 0 := by rw [f1]; exact if_neg (by rw [hall]; simp)
  rw [e0]
  obtain ⟨_, hl2, hvb⟩ := alE_ok e0
  obtain ⟨bc, bn, br⟩ := chOK_ok hch
  refine ITri.seq ?_
  refine ITri.reg pokT ?_; simp -implicitDefEqProofs (disch := first | decide | exact of_eq_true (eq_true rfl) | omega | assumption) only [ ↓vcD, vcE, evs, evP, evB, intsOf, fillC, Value.cells, pt, List.append_nil, List.nil_append, List.cons_append, List.length_cons, List.length_nil, List.filter_nil, List.map_nil, ↓List.getElem?_cons_zero, ↓List.getElem?_cons_succ, List.getElem?_cons_zero, List.getElem?_cons_succ, List.set_cons_zero, List.set_cons_succ, Option.join_some, Option.join_none, Option.map_some, List.all_cons, List.all_nil, Value.oneCell', reduceIte, reduceCtorEq, Nat.reduceEqDiff, Nat.reduceAdd, Nat.reduceMul, Nat.reduceLT, Nat.reduceBEq, Nat.reduceLeDiff, Nat.reduceSub, List.size_toArray] -- r10
  refine ITri.seq ?_
  refine ITri.seq ?_
  refine ITri.reg pokT ?_; simp -implicitDefEqProofs (disch := first | decide | exact of_eq_true (eq_true rfl) | omega | assumption) only [ ↓vcD, vcE, evs, evP, evB, intsOf, fillC, Value.cells, pt, List.append_nil, List.nil_append, List.cons_append, List.length_cons, List.length_nil, List.filter_nil, List.map_nil, ↓List.getElem?_cons_zero, ↓List.getElem?_cons_succ, List.getElem?_cons_zero, List.getElem?_cons_succ, List.set_cons_zero, List.set_cons_succ, Option.join_some, Option.join_none, Option.map_some, List.all_cons, List.all_nil, Value.oneCell', reduceIte, reduceCtorEq, Nat.reduceEqDiff, Nat.reduceAdd, Nat.reduceMul, Nat.reduceLT, Nat.reduceBEq, Nat.reduceLeDiff, Nat.reduceSub, List.size_toArray] -- r11
  refine ITri.block ?_
  refine ITri.loop (fun k : Nat => [(1, .slice (some ⟨2, 0, none⟩) m d), (2, pt 3), (7, .slice (some ⟨4, 0, none⟩) (alF cen rs vs k).length openB), (8, .int .i64 k)]) (fun _ => []) (fun k => Hp 3 [none, some (.cells ⟨rows eU rs, 0, false⟩), some (.cells ⟨rows eN vs, 0, false⟩), some (.cells ⟨[.int .i64 cen, .slice (some ⟨1, 0, none⟩) n c], 1, false⟩), some (.cells ⟨rows eU (alF cen rs vs k), 3, true⟩)]) (fun k => k ≤ m) (fun k => m - k) 0 (Nat.zero_le _) (Wk.gc [0, 1, 2, 3, 4] [(4, .room 0)] (of_decide_eq_true rfl) (of_decide_eq_true rfl) rfl rfl (of_decide_eq_true rfl) rfl rfl (by repeat (first | exact xiOK_nil | refine xiOK_cons (by first | trivial | exact roomOK _ (by decide)) ?_)) rfl (by simp -implicitDefEqProofs (disch := first | decide | exact of_eq_true (eq_true rfl) | omega | assumption) only [alF, rows_nil, objOK, sgL, xiL, objAt, nilO, OM, mvL, mv, mvS, okS, okP, mvL_rows, okML, okM, okML_rows, List.getElem?_cons_zero, Option.getD_some, implies_true, imp_self, ne_eq, and_self, true_or, or_true, Nat.zero_mul, Nat.sub_self, openB_self, ↓vcD, vcE, evs, evP, evB, intsOf, fillC, Value.cells, pt, List.append_nil, List.nil_append, List.cons_append, List.length_cons, List.length_nil, List.filter_nil, List.map_nil, ↓List.getElem?_cons_zero, ↓List.getElem?_cons_succ, List.getElem?_cons_zero, List.getElem?_cons_succ, List.set_cons_zero, List.set_cons_succ, Option.join_some, Option.join_none, Option.map_some, List.all_cons, List.all_nil, Value.oneCell', reduceIte, reduceCtorEq, Nat.reduceEqDiff, Nat.reduceAdd, Nat.reduceMul, Nat.reduceLT, Nat.reduceBEq, Nat.reduceLeDiff, Nat.reduceSub, List.size_toArray]) (by simp -implicitDefEqProofs (disch := first | decide | exact of_eq_true (eq_true rfl) | omega | assumption) only [alF, rows_nil, valOK, sgL, xiL, mv, mvA, mvL, mvS, okS, okP, okM, okMA, okML, Option.getD_some, implies_true, and_self, true_or, or_true, Int.natCast_add, Int.cast_ofNat_Int, Nat.zero_mul, Nat.sub_self, openB_self, ↓vcD, vcE, evs, evP, evB, intsOf, fillC, Value.cells, pt, List.append_nil, List.nil_append, List.cons_append, List.length_cons, List.length_nil, List.filter_nil, List.map_nil, ↓List.getElem?_cons_zero, ↓List.getElem?_cons_succ, List.getElem?_cons_zero, List.getElem?_cons_succ, List.set_cons_zero, List.set_cons_succ, Option.join_some, Option.join_none, Option.map_some, List.all_cons, List.all_nil, Value.oneCell', reduceIte, reduceCtorEq, Nat.reduceEqDiff, Nat.reduceAdd, Nat.reduceMul, Nat.reduceLT, Nat.reduceBEq, Nat.reduceLeDiff, Nat.reduceSub, List.size_toArray]) (fun _ h => by cases h) ⟨rfl, fun _ h => by cases h⟩) fun k hk => ?_
  have hlen := alF_len cen rs vs k
  have hlen2 : (alF cen rs vs k).length ≤ 3200 := by
    have : k * (2 * rs.length) ≤ 200 * 16 := Nat.mul_le_mul (by omega) (by omega)
    omega
  refine ITri.seq ?_
  refine ITri.seq ?_
  refine ITri.reg pokT ?_; simp -implicitDefEqProofs (disch := first | decide | exact of_eq_true (eq_true rfl) | omega | assumption) only [ ↓vcD, vcE, evs, evP, evB, intsOf, fillC, Value.cells, pt, List.append_nil, List.nil_append, List.cons_append, List.length_cons, List.length_nil, List.filter_nil, List.map_nil, ↓List.getElem?_cons_zero, ↓List.getElem?_cons_succ, List.getElem?_cons_zero, List.getElem?_cons_succ, List.set_cons_zero, List.set_cons_succ, Option.join_some, Option.join_none, Option.map_some, List.all_cons, List.all_nil, Value.oneCell', reduceIte, reduceCtorEq, Nat.reduceEqDiff, Nat.reduceAdd, Nat.reduceMul, Nat.reduceLT, Nat.reduceBEq, Nat.reduceLeDiff, Nat.reduceSub, List.size_toArray] -- r12
  refine ITri.condD (by rfl) (fun h2 => ?_) (fun h2 => ?_)
  · have hkr : k < vs.length := by omega
    have hk1 : ((k : Int) + 1) = ((k + 1 : Nat) : Int) := by omega
    have htl : (vs.take (k + 1)).length = k + 1 := by rw [List.length_take]; omega
    have hal : alF cen rs vs (k + 1) = alF cen rs vs k ++ atF cen rs (vs.take (k + 1)) rs.length := rfl
    have hat := atF_len cen rs (vs.take (k + 1)) rs.length
    rw [hn] at hal hat
    generalize hA : atF cen rs (vs.take (k + 1)) n = A at *
    have hlr : (rows eU (alF cen rs vs k)).length = (alF cen rs vs k).length * 3 := by rw [rows_len]
    have hlA : (rows eU A).length = A.length * 3 := by rw [rows_len]
    have htA : takeC (rows eU A) 0 (A.length * 3) = some (rows eU A) := takeC_0 _ _ hlA
    refine ITri.skip ?_; simp only [SeqQ_normal, BlkQ_normal]
    refine ITri.seq ?_
    refine ITri.block ?_
    refine ITri.draw pokT ?_; simp -implicitDefEqProofs (disch := first | decide | exact of_eq_true (eq_true rfl) | omega | assumption) only [hk1,  ↓vcD, vcE, evs, evP, evB, intsOf, fillC, Value.cells, pt, List.append_nil, List.nil_append, List.cons_append, List.length_cons, List.length_nil, List.filter_nil, List.map_nil, ↓List.getElem?_cons_zero, ↓List.getElem?_cons_succ, List.getElem?_cons_zero, List.getElem?_cons_succ, List.set_cons_zero, List.set_cons_succ, Option.join_some, Option.join_none, Option.map_some, List.all_cons, List.all_nil, Value.oneCell', reduceIte, reduceCtorEq, Nat.reduceEqDiff, Nat.reduceAdd, Nat.reduceMul, Nat.reduceLT, Nat.reduceBEq, Nat.reduceLeDiff, Nat.reduceSub, List.size_toArray] -- r14
    refine gen_to u_slI i_I rfl rfl rfl (by omega) hd ?_
    try simp -implicitDefEqProofs (disch := first | decide | exact of_eq_true (eq_true rfl) | omega | assumption) only [ ↓vcD, vcE, evs, evP, evB, intsOf, fillC, Value.cells, pt, List.append_nil, List.nil_append, List.cons_append, List.length_cons, List.length_nil, List.filter_nil, List.map_nil, ↓List.getElem?_cons_zero, ↓List.getElem?_cons_succ, List.getElem?_cons_zero, List.getElem?_cons_succ, List.set_cons_zero, List.set_cons_succ, Option.join_some, Option.join_none, Option.map_some, List.all_cons, List.all_nil, Value.oneCell', reduceIte, reduceCtorEq, Nat.reduceEqDiff, Nat.reduceAdd, Nat.reduceMul, Nat.reduceLT, Nat.reduceBEq, Nat.reduceLeDiff, Nat.reduceSub, List.size_toArray]
    refine ⟨_, _, at_f (n := n) (m := k + 1) (vs := vs.take (k + 1)) hn (by omega) htl (by omega) (by omega) bc (fun v hv => hvb v (List.mem_of_mem_take hv)) br (sees0 rfl (of_decide_eq_true rfl)) (Rd.hq rfl rfl) ?_, ?_⟩
    · exact Rd.some (get_hq rfl rfl) (by rw [List.drop_zero, ← Nat.mul_one (k + 1), ← rows_take]; exact List.take_prefix _ _) (fun _ => Nat.zero_le _)
    rw [hA]
    by_cases hA0 : A.length = 0
    · obtain rfl : A = [] := List.eq_nil_of_length_eq_zero hA0
      rw [List.append_nil] at hal
      simp -implicitDefEqProofs (disch := first | decide | exact of_eq_true (eq_true rfl) | omega | assumption) only [List.length_nil, appK_zo,  ↓vcD, vcE, evs, evP, evB, intsOf, fillC, Value.cells, pt, List.append_nil, List.nil_append, List.cons_append, List.length_cons, List.length_nil, List.filter_nil, List.map_nil, ↓List.getElem?_cons_zero, ↓List.getElem?_cons_succ, List.getElem?_cons_zero, List.getElem?_cons_succ, List.set_cons_zero, List.set_cons_succ, Option.join_some, Option.join_none, Option.map_some, List.all_cons, List.all_nil, Value.oneCell', reduceIte, reduceCtorEq, Nat.reduceEqDiff, Nat.reduceAdd, Nat.reduceMul, Nat.reduceLT, Nat.reduceBEq, Nat.reduceLeDiff, Nat.reduceSub, List.size_toArray]
      rw [← hal]
      refine ITri.reg pokT ?_; simp -implicitDefEqProofs (disch := first | decide | exact of_eq_true (eq_true rfl) | omega | assumption) only [ ↓vcD, vcE, evs, evP, evB, intsOf, fillC, Value.cells, pt, List.append_nil, List.nil_append, List.cons_append, List.length_cons, List.length_nil, List.filter_nil, List.map_nil, ↓List.getElem?_cons_zero, ↓List.getElem?_cons_succ, List.getElem?_cons_zero, List.getElem?_cons_succ, List.set_cons_zero, List.set_cons_succ, Option.join_some, Option.join_none, Option.map_some, List.all_cons, List.all_nil, Value.oneCell', reduceIte, reduceCtorEq, Nat.reduceEqDiff, Nat.reduceAdd, Nat.reduceMul, Nat.reduceLT, Nat.reduceBEq, Nat.reduceLeDiff, Nat.reduceSub, List.size_toArray] -- r13
      exact LoopQ.next (k + 1) (by omega) (by omega) (Wk.gc [0, 1, 2, 3, 4] [] (of_decide_eq_true rfl) (of_decide_eq_true rfl) rfl rfl (of_decide_eq_true rfl) rfl rfl (fun _ h => by cases h) rfl (by simp -implicitDefEqProofs (disch := first | decide | exact of_eq_true (eq_true rfl) | omega | assumption) only [objOK, sgL, xiL, objAt, nilO, OM, mvL, mv, mvS, okS, okP, mvL_rows, okML, okM, okML_rows, List.getElem?_cons_zero, Option.getD_some, implies_true, imp_self, ne_eq, and_self, ↓vcD, vcE, evs, evP, evB, intsOf, fillC, Value.cells, pt, List.append_nil, List.nil_append, List.cons_append, List.length_cons, List.length_nil, List.filter_nil, List.map_nil, ↓List.getElem?_cons_zero, ↓List.getElem?_cons_succ, List.getElem?_cons_zero, List.getElem?_cons_succ, List.set_cons_zero, List.set_cons_succ, Option.join_some, Option.join_none, Option.map_some, List.all_cons, List.all_nil, Value.oneCell', reduceIte, reduceCtorEq, Nat.reduceEqDiff, Nat.reduceAdd, Nat.reduceMul, Nat.reduceLT, Nat.reduceBEq, Nat.reduceLeDiff, Nat.reduceSub, List.size_toArray]) (by simp -implicitDefEqProofs (disch := first | decide | exact of_eq_true (eq_true rfl) | omega | assumption) only [ valOK, sgL, xiL, mv, mvA, mvL, mvS, okS, okP, okM, okMA, okML, Option.getD_some, implies_true, and_self, Int.natCast_add, Int.cast_ofNat_Int, ↓vcD, vcE, evs, evP, evB, intsOf, fillC, Value.cells, pt, List.append_nil, List.nil_append, List.cons_append, List.length_cons, List.length_nil, List.filter_nil, List.map_nil, ↓List.getElem?_cons_zero, ↓List.getElem?_cons_succ, List.getElem?_cons_zero, List.getElem?_cons_succ, List.set_cons_zero, List.set_cons_succ, Option.join_some, Option.join_none, Option.map_some, List.all_cons, List.all_nil, Value.oneCell', reduceIte, reduceCtorEq, Nat.reduceEqDiff, Nat.reduceAdd, Nat.reduceMul, Nat.reduceLT, Nat.reduceBEq, Nat.reduceLeDiff, Nat.reduceSub, List.size_toArray]) (fun _ h => by cases h) ⟨rfl, fun _ h => by cases h⟩)
    · simp -implicitDefEqProofs (disch := first | decide | exact of_eq_true (eq_true rfl) | omega | assumption) only [hlr, htA, hlA, rows_allT,  ↓vcD, vcE, evs, evP, evB, intsOf, fillC, Value.cells, pt, List.append_nil, List.nil_append, List.cons_append, List.length_cons, List.length_nil, List.filter_nil, List.map_nil, ↓List.getElem?_cons_zero, ↓List.getElem?_cons_succ, List.getElem?_cons_zero, List.getElem?_cons_succ, List.set_cons_zero, List.set_cons_succ, Option.join_some, Option.join_none, Option.map_some, List.all_cons, List.all_nil, Value.oneCell', reduceIte, reduceCtorEq, Nat.reduceEqDiff, Nat.reduceAdd, Nat.reduceMul, Nat.reduceLT, Nat.reduceBEq, Nat.reduceLeDiff, Nat.reduceSub, List.size_toArray]
      rw [← rows_append, ← List.length_append, ← hal]
      refine ITri.reg pokT ?_; simp -implicitDefEqProofs (disch := first | decide | exact of_eq_true (eq_true rfl) | omega | assumption) only [ ↓vcD, vcE, evs, evP, evB, intsOf, fillC, Value.cells, pt, List.append_nil, List.nil_append, List.cons_append, List.length_cons, List.length_nil, List.filter_nil, List.map_nil, ↓List.getElem?_cons_zero, ↓List.getElem?_cons_succ, List.getElem?_cons_zero, List.getElem?_cons_succ, List.set_cons_zero, List.set_cons_succ, Option.join_some, Option.join_none, Option.map_some, List.all_cons, List.all_nil, Value.oneCell', reduceIte, reduceCtorEq, Nat.reduceEqDiff, Nat.reduceAdd, Nat.reduceMul, Nat.reduceLT, Nat.reduceBEq, Nat.reduceLeDiff, Nat.reduceSub, List.size_toArray] -- r13
      exact LoopQ.next (k + 1) (by omega) (by omega) (Wk.gc [0, 1, 2, 3, 6] [] (of_decide_eq_true rfl) (of_decide_eq_true rfl) rfl rfl (of_decide_eq_true rfl) rfl rfl (fun _ h => by cases h) rfl (by simp -implicitDefEqProofs (disch := first | decide | exact of_eq_true (eq_true rfl) | omega | assumption) only [objOK, sgL, xiL, objAt, nilO, OM, mvL, mv, mvS, okS, okP, mvL_rows, okML, okM, okML_rows, List.getElem?_cons_zero, Option.getD_some, implies_true, imp_self, ne_eq, and_self, ↓vcD, vcE, evs, evP, evB, intsOf, fillC, Value.cells, pt, List.append_nil, List.nil_append, List.cons_append, List.length_cons, List.length_nil, List.filter_nil, List.map_nil, ↓List.getElem?_cons_zero, ↓List.getElem?_cons_succ, List.getElem?_cons_zero, List.getElem?_cons_succ, List.set_cons_zero, List.set_cons_succ, Option.join_some, Option.join_none, Option.map_some, List.all_cons, List.all_nil, Value.oneCell', reduceIte, reduceCtorEq, Nat.reduceEqDiff, Nat.reduceAdd, Nat.reduceMul, Nat.reduceLT, Nat.reduceBEq, Nat.reduceLeDiff, Nat.reduceSub, List.size_toArray]) (by simp -implicitDefEqProofs (disch := first | decide | exact of_eq_true (eq_true rfl) | omega | assumption) only [ valOK, sgL, xiL, mv, mvA, mvL, mvS, okS, okP, okM, okMA, okML, Option.getD_some, implies_true, and_self, Int.natCast_add, Int.cast_ofNat_Int, ↓vcD, vcE, evs, evP, evB, intsOf, fillC, Value.cells, pt, List.append_nil, List.nil_append, List.cons_append, List.length_cons, List.length_nil, List.filter_nil, List.map_nil, ↓List.getElem?_cons_zero, ↓List.getElem?_cons_succ, List.getElem?_cons_zero, List.getElem?_cons_succ, List.set_cons_zero, List.set_cons_succ, Option.join_some, Option.join_none, Option.map_some, List.all_cons, List.all_nil, Value.oneCell', reduceIte, reduceCtorEq, Nat.reduceEqDiff, Nat.reduceAdd, Nat.reduceMul, Nat.reduceLT, Nat.reduceBEq, Nat.reduceLeDiff, Nat.reduceSub, List.size_toArray]) (fun _ h => by cases h) ⟨rfl, fun _ h => by cases h⟩)
  refine ITri.exit ?_; try simp -implicitDefEqProofs (disch := first | decide | exact of_eq_true (eq_true rfl) | omega | assumption) only [ ↓vcD, vcE, evs, evP, evB, intsOf, fillC, Value.cells, pt, List.append_nil, List.nil_append, List.cons_append, List.length_cons, List.length_nil, List.filter_nil, List.map_nil, ↓List.getElem?_cons_zero, ↓List.getElem?_cons_succ, List.getElem?_cons_zero, List.getElem?_cons_succ, List.set_cons_zero, List.set_cons_succ, Option.join_some, Option.join_none, Option.map_some, List.all_cons, List.all_nil, Value.oneCell', reduceIte, reduceCtorEq, Nat.reduceEqDiff, Nat.reduceAdd, Nat.reduceMul, Nat.reduceLT, Nat.reduceBEq, Nat.reduceLeDiff, Nat.reduceSub, List.size_toArray]
  obtain rfl : m = k := by omega
  refine ITri.seq ?_
  refine ITri.reg pokT ?_; simp -implicitDefEqProofs (disch := first | decide | exact of_eq_true (eq_true rfl) | omega | assumption) only [ ↓vcD, vcE, evs, evP, evB, intsOf, fillC, Value.cells, pt, List.append_nil, List.nil_append, List.cons_append, List.length_cons, List.length_nil, List.filter_nil, List.map_nil, ↓List.getElem?_cons_zero, ↓List.getElem?_cons_succ, List.getElem?_cons_zero, List.getElem?_cons_succ, List.set_cons_zero, List.set_cons_succ, Option.join_some, Option.join_none, Option.map_some, List.all_cons, List.all_nil, Value.oneCell', reduceIte, reduceCtorEq, Nat.reduceEqDiff, Nat.reduceAdd, Nat.reduceMul, Nat.reduceLT, Nat.reduceBEq, Nat.reduceLeDiff, Nat.reduceSub, List.size_toArray] -- r15
  refine ITri.ret ?_
  exact end_own2 (k := 4) (by decide) (rows_no (f := eU) _) rfl rfl
theorem refAlarms_f {n c m d : Nat} {cen : Int} {rs : List Ru} {vs : List Int} (hn : rs.length = n) (hb : n ≤ 1000000) (hm : vs.length = m) (hb2 : m ≤ 1000000) (hd : d < openB → m ≤ d) (he : alE cen rs vs = 0) {h : AH} {k sz k2 sz2 : Nat} {op op2 : Bool} (h0 : h.sees 0 = true) (hg : h.get k = some (.cells ⟨rows eU rs, sz, op⟩)) (hg2 : h.get k2 = some (.cells ⟨rows eN vs, sz2, op2⟩)) :
    Fc Try.prog 15 [chV cen (.slice (some ⟨k, 0, none⟩) n c), .slice (some ⟨k2, 0, none⟩) m d] h (.tuple #[.slice (some ⟨h.next, 0, none⟩) (alF cen rs vs m).length openB, .int .i64 0]) (h.new (.cells ⟨rows eU (alF cen rs vs m), 3, true⟩)) :=
  Fc.lift2o (mk := fun ss => .agg ⟨[.int .i64 cen] ++ ss.take 1⟩ :: ([] ++ ss.drop 1 ++ [])) (mkv := fun ss => .tuple ⟨[] ++ ss ++ [.int .i64 0]⟩) (os := [((alF cen rs vs m).length, rows eU (alF cen rs vs m), 3)]) (by
    have := refAlarms_c n c m d cen rs vs hn hb hm hb2 hd
    rw [he] at this
    unfold raV raO at this
    rw [if_pos rfl, if_pos rfl, Hq_news] at this
    exact this) (MkL.ag2 rfl rfl rfl) (MkV.tup (MkL.mid rfl rfl)) (rows_no (f := eU) rs) (rows_no (f := eN) vs) (fun o ho => by simp at ho; subst ho; exact rows_no (f := eU) _) h0 hg hg2
theorem refAlarmsE_f {n c m d : Nat} {cen : Int} {rs : List Ru} {vs : List Int} (hn : rs.length = n) (hb : n ≤ 1000000) (hm : vs.length = m) (hb2 : m ≤ 1000000) (hd : d < openB → m ≤ d) (he : alE cen rs vs ≠ 0) {h : AH} {k sz k2 sz2 : Nat} {op op2 : Bool} (h0 : h.sees 0 = true) (hg : h.get k = some (.cells ⟨rows eU rs, sz, op⟩)) (hg2 : h.get k2 = some (.cells ⟨rows eN vs, sz2, op2⟩)) :
    Fc Try.prog 15 [chV cen (.slice (some ⟨k, 0, none⟩) n c), .slice (some ⟨k2, 0, none⟩) m d] h (.tuple #[.slice none 0 0, .int .i64 (alE cen rs vs)]) h :=
  Fc.lift2o (mk := fun ss => .agg ⟨[.int .i64 cen] ++ ss.take 1⟩ :: ([] ++ ss.drop 1 ++ [])) (mkv := fun _ => .tuple #[.slice none 0 0, .int .i64 (alE cen rs vs)]) (os := []) (by
    have := refAlarms_c n c m d cen rs vs hn hb hm hb2 hd
    unfold raV raO at this
    rw [if_neg he, if_neg he, Hq_news] at this
    exact this) (MkL.ag2 rfl rfl rfl) (MkV.const rfl) (rows_no (f := eU) rs) (rows_no (f := eN) vs) (fun o ho => by cases ho) h0 hg hg2
end Go.Proofs.Ytfmcdbcoljpomaa
