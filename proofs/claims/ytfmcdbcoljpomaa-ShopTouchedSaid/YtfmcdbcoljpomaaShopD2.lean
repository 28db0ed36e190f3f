/-
  Chapter 11, by names: Repeat of -1, wherever it stands; ref.Taint, lifted.
-/
import Derived.Test.YtfmcdbcoljpomaaShopC6
import Derived.Test.YtfmcdbcoljpomaaShopC3
import Derived.Test.YtfmcdbcoljpomaaShopC2
set_option linter.unusedSimpArgs false
set_option linter.unusedVariables false
namespace Go.Vm
open Go Go.RowKit
/-- As Fc.lift, at known rooms. -/
theorem Fc.liftP {P : Program} {f : Nat} {cs : List Rs1} {os : List Ns1} {mk : List Value → List Value} {mkv : List Value → Value} {ps : List (Nat × Nat × Bool)} {caps : List Nat}
    (F : Fc P f (mk (slicesAt 1 cs caps)) (Hp (cs.length + 1) (none :: rsL cs)) (mkv (newsAt (cs.length + 1) os)) (Hp (cs.length + 1) ((none :: rsL cs) ++ (nsO os).map some)))
    (hmk : MkL mk) (hmv : MkV mkv) (hno : ∀ p ∈ cs, noAddrL p.2 = true) (hos : ∀ o ∈ os, noAddrL o.2.1 = true) {h : AH} (h0 : h.sees 0 = true) (hp : PlOK h ps cs caps) :
    Fc P f (mk (placesV ps cs caps)) h (mkv (newsAt h.next os)) (h.news (nsO os)) := by
  obtain ⟨l1, l2⟩ := hp.len
  have hlen : (none :: rsL cs).length = cs.length + 1 := by simp [rsL]
  obtain ⟨q1, q2, q3⟩ := PlOK.fr (ψ := psL ((0, 0, false) :: ps)) (B := cs.length + 1) 1 hp hno (fun j p hj => by unfold psL; rw [show 1 + j = j + 1 from by omega, List.getElem?_cons_succ, hj]; rfl) (by omega)
  have F' := F
  rw [← hlen] at F'
  have hosO : ∀ o ∈ nsO os, ∃ x ∈ os, o = .cells ⟨x.2.1, x.2.2, true⟩ := fun o ho => by
    obtain ⟨x, hx, rfl⟩ := List.mem_map.1 ho
    exact ⟨x, hx, rfl⟩
  refine Fc.frameL F' ((0, 0, false) :: ps) ?_ ?_ ?_ ?_ (fun o ho => ?_) ?_ ?_ ?_
  · rw [List.all_eq_true]
    intro o ho
    obtain ⟨x, hx, rfl⟩ := hosO o ho
    rfl
  · rw [hlen]
    exact ⟨fr_none h0, q1⟩
  · rw [hlen]
    exact hmk.ok _ _ _ q3
  · rw [hlen]
    exact hmv.ok _ _ _ (newsAt_ok os _ (Nat.le_refl _) (by simp [nsO]))
  · obtain ⟨x, hx, rfl⟩ := hosO o ho
    exact okML_noAddr _ _ _ (hos x hx)
  · rw [hmk.mw, q2]
  · rw [hlen, hmv.mw, newsAt_mw os _ (Nat.le_refl _), Nat.sub_self, Nat.add_zero]
  · congr 1
    unfold nsO
    rw [List.map_map]
    refine List.map_congr_left fun x hx => ?_
    simp only [Function.comp, mwO, mwL_noAddr _ _ (hos x hx)]
/-- One slice with a room that is known. -/
theorem Fc.lift1o {P : Program} {f n c : Nat} {cs : List Value} {os : List Ns1} {mk : List Value → List Value} {mkv : List Value → Value}
    (F : Fc P f (mk [.slice (some ⟨1, 0, none⟩) n c]) (Hp 2 [none, some (.cells ⟨cs, 0, false⟩)]) (mkv (newsAt 2 os)) (Hp 2 ([none, some (.cells ⟨cs, 0, false⟩)] ++ (nsO os).map some)))
    (hmk : MkL mk) (hmv : MkV mkv) (hno : noAddrL cs = true) (hos : ∀ o ∈ os, noAddrL o.2.1 = true) {h : AH} {k sz : Nat} {op : Bool} (h0 : h.sees 0 = true) (hg : h.get k = some (.cells ⟨cs, sz, op⟩)) :
    Fc P f (mk [.slice (some ⟨k, 0, none⟩) n c]) h (mkv (newsAt h.next os)) (h.news (nsO os)) :=
  Fc.liftP (cs := [(n, cs)]) (caps := [c]) (ps := [(k, 0, false)]) F hmk hmv (fun p hp => by simp at hp; subst hp; exact hno) hos h0 ⟨⟨get_sees hg, ⟨_, hg, ⟨[], by simp⟩, fun _ => Nat.zero_le _⟩⟩, ⟨(fun e => by cases e), trivial⟩⟩
end Go.Vm
namespace Go.Proofs.Ytfmcdbcoljpomaa
open Go.RowKit Go.Vm
set_option maxRecDepth 100000
theorem rep_rows (n : Nat) : rows eN (List.replicate n (-1 : Int)) = List.replicate n (.int .i64 (-1)) := by
  induction n with
  | zero => rfl
  | succ n ih => rw [List.replicate_succ, rows_cons, ih]; rfl
theorem rep_c2 (n c : Nat) (hn : n ≤ 100) : Fc Try.prog 58 [.slice (some ⟨1, 0, none⟩) 1 c, .int .i64 n] (Hp 2 repM) (.slice (some ⟨2, 0, none⟩) n openB) ((Hp 2 repM).news [.cells ⟨rows eN (List.replicate n (-1)), 1, true⟩]) := by
  refine Fc.gc (rep_c n c hn) rfl rfl [2] [(2, .room n)] rfl (by simp) (by intro s hs; simp at hs; subst hs; decide) (fun p hp => ?_) ?_ ?_ fun i o2 h => .inr ?_
  · simp at hp
    subst hp
    exact ⟨Nat.le_refl 2, roomOK n (by omega)⟩
  · show _ = mvS (.room n) ⟨2, 0, none⟩ n openB
    simp [mvS]
  · exact ⟨by show 2 < 3; decide, fun _ => ⟨by omega, by omega⟩⟩
  · match i, h with
    | 0, h =>
      cases h
      refine ⟨(by intro e; cases e), _, (by show (Hp 2 _).get 2 = _; rw [Hp_get]; rfl), ?_⟩
      have hno := rows_no (f := eN) (List.replicate n (-1 : Int))
      refine ⟨by rw [mvL_noAddr _ _ _ hno, rep_rows], okML_noAddr _ _ _ hno, fun e => e, fun e => ?_⟩
      show n * 1 ≤ (List.replicate n (Value.int .i64 (-1))).length
      rw [List.length_replicate]
      omega
theorem rep_f {n : Nat} (hn : n ≤ 100) {h : AH} {s : Value} (h0 : h.sees 0 = true) (r : Rd h s 1 [.int .i64 (-1)]) :
    Fc Try.prog 58 [s, .int .i64 n] h (.slice (some ⟨h.next, 0, none⟩) n openB) (h.new (.cells ⟨rows eN (List.replicate n (-1)), 1, true⟩)) :=
  Fc.lift1 (mk := fun ss => [] ++ ss ++ [.int .i64 n]) (mkv := fun ss => ss.headD undef) (os := [(n, rows eN (List.replicate n (-1)), 1)]) (fun c => by
    have := rep_c2 n c hn
    rw [Hq_news] at this
    exact this) (MkL.mid rfl rfl) MkV.one rfl (fun o ho => by simp at ho; subst ho; exact rows_no (f := eN) _) h0 r
theorem refTaint_f {n p q r : Nat} {l : List Tc} {since : Int} (hl : l.length = n) (hb : n ≤ 1000000) (he : tcE l p q r since = 0) {h : AH} {s : Value} (h0 : h.sees 0 = true) (rd : Rd h s n (rows eC l)) :
    Fc Try.prog 21 [s, .int .i64 p, .int .i64 q, .int .i64 r, .int .i64 since] h (.tuple #[.slice (some ⟨h.next, 0, none⟩) p openB, .slice (some ⟨h.next + 1, 0, none⟩) q openB, .int .i64 0]) ((h.new (.cells ⟨rows eN (tnG l p q r since).1, 1, true⟩)).new (.cells ⟨rows eN (tnG l p q r since).2, 1, true⟩)) :=
  Fc.lift1 (mk := fun ss => [] ++ ss ++ [.int .i64 p, .int .i64 q, .int .i64 r, .int .i64 since]) (mkv := fun ss => .tuple ⟨[] ++ ss ++ [.int .i64 0]⟩) (os := [(p, rows eN (tnG l p q r since).1, 1), (q, rows eN (tnG l p q r since).2, 1)]) (fun c => by
    have := refTaint_c n c p q r l since hl hb he
    rw [Hq_news] at this
    exact this) (MkL.mid rfl rfl) (MkV.tup (MkL.mid rfl rfl)) (rows_no (f := eC) l) (fun o ho => by
    simp at ho
    rcases ho with rfl | rfl <;> exact rows_no (f := eN) _) h0 rd
theorem refTaintE_c (n c : Nat) (l : List Tc) (lots tools bad since : Int) (hl : l.length = n) (hb : n ≤ 1000000) (he : tcE l lots tools bad since ≠ 0) :
    Fc Try.prog 21 [.slice (some ⟨1, 0, none⟩) n c, .int .i64 lots, .int .i64 tools, .int .i64 bad, .int .i64 since] (Hp 2 [none, some (.cells ⟨rows eC l, 0, false⟩)]) (.tuple #[.slice none 0 0, .slice none 0 0, .int .i64 (tcE l lots tools bad since)]) (Hp 2 [none, some (.cells ⟨rows eC l, 0, false⟩)]) := by
  refine Fc.intro0 fn21 (by simp) rfl rfl ?_; simp only [argF]
  refine ITri.seq ?_
  refine ITri.reg pokT ?_; simp -implicitDefEqProofs (disch := first | decide | exact of_eq_true (eq_true rfl) | omega | assumption) only [ ↓vcD, vcE, evs, evP, evB, intsOf, fillC, Value.cells, pt, List.append_nil, List.nil_append, List.cons_append, List.length_cons, List.length_nil, List.filter_nil, List.map_nil, ↓List.getElem?_cons_zero, ↓List.getElem?_cons_succ, List.getElem?_cons_zero, List.getElem?_cons_succ, List.set_cons_zero, List.set_cons_succ, Option.join_some, Option.join_none, Option.map_some, List.all_cons, List.all_nil, Value.oneCell', reduceIte, reduceCtorEq, Nat.reduceEqDiff, Nat.reduceAdd, Nat.reduceMul, Nat.reduceLT, Nat.reduceBEq, Nat.reduceLeDiff, Nat.reduceSub, List.size_toArray]
  refine ITri.seq ?_
  refine ITri.seq ?_
  refine ITri.reg pokT ?_; simp -implicitDefEqProofs (disch := first | decide | exact of_eq_true (eq_true rfl) | omega | assumption) only [ ↓vcD, vcE, evs, evP, evB, intsOf, fillC, Value.cells, pt, List.append_nil, List.nil_append, List.cons_append, List.length_cons, List.length_nil, List.filter_nil, List.map_nil, ↓List.getElem?_cons_zero, ↓List.getElem?_cons_succ, List.getElem?_cons_zero, List.getElem?_cons_succ, List.set_cons_zero, List.set_cons_succ, Option.join_some, Option.join_none, Option.map_some, List.all_cons, List.all_nil, Value.oneCell', reduceIte, reduceCtorEq, Nat.reduceEqDiff, Nat.reduceAdd, Nat.reduceMul, Nat.reduceLT, Nat.reduceBEq, Nat.reduceLeDiff, Nat.reduceSub, List.size_toArray]
  refine ⟨_, _, touches_f _ _ _ _ hl hb (sees0 rfl (of_decide_eq_true rfl)) (Rd.hq rfl rfl), ?_⟩
  try simp -implicitDefEqProofs (disch := first | decide | exact of_eq_true (eq_true rfl) | omega | assumption) only [ ↓vcD, vcE, evs, evP, evB, intsOf, fillC, Value.cells, pt, List.append_nil, List.nil_append, List.cons_append, List.length_cons, List.length_nil, List.filter_nil, List.map_nil, ↓List.getElem?_cons_zero, ↓List.getElem?_cons_succ, List.getElem?_cons_zero, List.getElem?_cons_succ, List.set_cons_zero, List.set_cons_succ, Option.join_some, Option.join_none, Option.map_some, List.all_cons, List.all_nil, Value.oneCell', reduceIte, reduceCtorEq, Nat.reduceEqDiff, Nat.reduceAdd, Nat.reduceMul, Nat.reduceLT, Nat.reduceBEq, Nat.reduceLeDiff, Nat.reduceSub, List.size_toArray]
  refine ITri.seq ?_
  refine ITri.reg pokT ?_; simp -implicitDefEqProofs (disch := first | decide | exact of_eq_true (eq_true rfl) | omega | assumption) only [he, not_false_eq_true, decide_true,  ↓vcD, vcE, evs, evP, evB, intsOf, fillC, Value.cells, pt, List.append_nil, List.nil_append, List.cons_append, List.length_cons, List.length_nil, List.filter_nil, List.map_nil, ↓List.getElem?_cons_zero, ↓List.getElem?_cons_succ, List.getElem?_cons_zero, List.getElem?_cons_succ, List.set_cons_zero, List.set_cons_succ, Option.join_some, Option.join_none, Option.map_some, List.all_cons, List.all_nil, Value.oneCell', reduceIte, reduceCtorEq, Nat.reduceEqDiff, Nat.reduceAdd, Nat.reduceMul, Nat.reduceLT, Nat.reduceBEq, Nat.reduceLeDiff, Nat.reduceSub, List.size_toArray]
  refine ITri.cond (v := true) rfl (fun _ => ?_) (fun h => by cases h)
  refine ITri.seq ?_
  refine ITri.reg pokT ?_; simp -implicitDefEqProofs (disch := first | decide | exact of_eq_true (eq_true rfl) | omega | assumption) only [ ↓vcD, vcE, evs, evP, evB, intsOf, fillC, Value.cells, pt, List.append_nil, List.nil_append, List.cons_append, List.length_cons, List.length_nil, List.filter_nil, List.map_nil, ↓List.getElem?_cons_zero, ↓List.getElem?_cons_succ, List.getElem?_cons_zero, List.getElem?_cons_succ, List.set_cons_zero, List.set_cons_succ, Option.join_some, Option.join_none, Option.map_some, List.all_cons, List.all_nil, Value.oneCell', reduceIte, reduceCtorEq, Nat.reduceEqDiff, Nat.reduceAdd, Nat.reduceMul, Nat.reduceLT, Nat.reduceBEq, Nat.reduceLeDiff, Nat.reduceSub, List.size_toArray]
  refine ITri.ret ?_; exact EndR.plain (vs := [.slice none 0 0, .slice none 0 0, .int .i64 (tcE l lots tools bad since)]) (by simp) (by rfl) (by rfl) (by rfl)
theorem refTaintE_f {n : Nat} {l : List Tc} {lots tools bad since : Int} (hl : l.length = n) (hb : n ≤ 1000000) (he : tcE l lots tools bad since ≠ 0) {h : AH} {s : Value} (h0 : h.sees 0 = true) (rd : Rd h s n (rows eC l)) :
    Fc Try.prog 21 [s, .int .i64 lots, .int .i64 tools, .int .i64 bad, .int .i64 since] h (.tuple #[.slice none 0 0, .slice none 0 0, .int .i64 (tcE l lots tools bad since)]) h :=
  Fc.lift1 (mk := fun ss => [] ++ ss ++ [.int .i64 lots, .int .i64 tools, .int .i64 bad, .int .i64 since]) (mkv := fun _ => .tuple #[.slice none 0 0, .slice none 0 0, .int .i64 (tcE l lots tools bad since)]) (os := []) (fun c => refTaintE_c n c l lots tools bad since hl hb he) (MkL.mid rfl rfl) (MkV.const rfl) (rows_no (f := eC) l) (fun o ho => by cases ho) h0 rd
end Go.Proofs.Ytfmcdbcoljpomaa
