/-
  Chapter 7, turns, by names: numbers, suit, Turn.
-/
import Derived.Test.YtlkfcbdbieenhaaCropT4
import Derived.Test.YtlkfcbdbieenhaaCropT5
set_option linter.unusedSimpArgs false
set_option linter.unusedVariables false
namespace Go.Proofs.Ytlkfcbdbieenhaa
open Go.RowKit Go.Vm
set_option maxRecDepth 100000
theorem u_sl : Try.prog.underlying 71 = some (.slice 3) := by kernel_rfl
theorem i_int : Try.prog.info? 3 = some ((Try.prog.info? 3).get rfl) := by kernel_rfl
theorem sz_int : ((Try.prog.info? 3).get rfl).size = 1 := by kernel_rfl
theorem getN {xs : List Int} {i : Nat} (hi : i < xs.length) : (rows eN xs)[i]? = some (.int .i64 (nth xs i)) := rows_get1 (f := eN) hi
/- boule/crop.numbers · slots 14 · names 0:n 1:n 2:l 3:i · results [2] -/
def ir72_r0 : IC := .reg [⟨some 2, none, false, .mv (.k (.slice none 0 0))⟩] (some [0, 2])
def ir72_r1 : IC := .reg [⟨some 4, none, false, .mv (.t 0)⟩,
  ⟨some 5, none, false, .mv (.k (.int .i64 0))⟩] (some [2, 4, 5])
def ir72_r2 : IC := .reg [⟨some 6, none, false, .cmp .lss (.t 5) (.t 4)⟩] (some [2, 4, 5, 6])
def ir72_1 : IC := .cond (.t 6) .skip (.exit 0)
def ir72_r3 : IC := .reg [⟨some 7, none, false, .mv (.t 5)⟩,
  ⟨some 3, none, false, .mv (.t 7)⟩] (some [2, 3, 4, 5])
def ir72_r4 : IC := .reg [⟨some 8, none, false, .mv (.t 2)⟩,
  ⟨some 9, none, false, .mv (.t 3)⟩,
  ⟨some 10, none, false, .bsl 1 1 [(.int .i64 0)] [(0, (.t 9))]⟩,
  ⟨some 11, none, false, .app 1 8 (.t 8) (.t 10)⟩,
  ⟨some 2, none, false, .mv (.t 11)⟩] (some [2, 4, 5])
def ir72_2 : IC := .seq ir72_r3 ir72_r4
def ir72_3 : IC := .block 1 ir72_2
def ir72_r5 : IC := .reg [⟨some 12, none, false, .ar .add (.t 5) (.k (.int .i64 1))⟩,
  ⟨some 5, none, false, .mv (.t 12)⟩] (some [2, 4, 5])
def ir72_4 : IC := .seq ir72_3 ir72_r5
def ir72_5 : IC := .seq ir72_1 ir72_4
def ir72_6 : IC := .seq ir72_r2 ir72_5
def ir72_7 : IC := .loop ir72_6
def ir72_8 : IC := .block 0 ir72_7
def ir72_9 : IC := .seq ir72_r1 ir72_8
def ir72_r6 : IC := .reg [⟨some 13, none, false, .mv (.t 2)⟩,
  ⟨some 2, none, false, .mv (.t 13)⟩] (some [2])
def ir72_10 : IC := .seq ir72_r6 .ret
def ir72_11 : IC := .seq ir72_9 ir72_10
def ir72_12 : IC := .seq ir72_r0 ir72_11
def ir72 : IC := ir72_12
theorem fn72 : FnIs Try.prog 72 ir72 14 [.tmp 2] := ⟨Try.f72, Try.f72.body.getD .skip, Try.func72, by kernel_rfl, by kernel_rfl, by kernel_rfl, by kernel_rfl⟩
/-- The numbers below n: nil for none. -/
theorem numbers_c (n : Nat) (h1 : 1 ≤ n) (hn : n ≤ 1000) : Fc Try.prog 72 [.int .i64 n] (Hp 1 [none]) (.slice (some ⟨1, 0, none⟩) n openB) (Hp 1 ([none] ++ (nsO [(n, rows eN (upN 0 n), 1)]).map some)) := by
  have hnew : Hp 1 ([none] ++ (nsO [(n, rows eN (upN 0 n), 1)]).map some) = (Hp 1 [none]).news [.cells ⟨rows eN (upN 0 n), 1, true⟩] := (Hq_news _).symm
  rw [hnew]
  refine Fc.introR fn72 (by simp) rfl rfl ?_; simp only [argF]
  refine ITri.seq ?_
  refine ITri.reg pokT ?_; simp -implicitDefEqProofs (disch := first | decide | exact of_eq_true (eq_true rfl) | omega | assumption) only [ ↓vcD, vcE, evs, evP, evB, intsOf, fillC, Value.cells, pt, List.append_nil, List.nil_append, List.cons_append, List.length_cons, List.length_nil, List.filter_nil, List.map_nil, ↓List.getElem?_cons_zero, ↓List.getElem?_cons_succ, List.getElem?_cons_zero, List.getElem?_cons_succ, List.set_cons_zero, List.set_cons_succ, Option.join_some, Option.join_none, Option.map_some, List.all_cons, List.all_nil, Value.oneCell', reduceIte, reduceCtorEq, Nat.reduceEqDiff, Nat.reduceAdd, Nat.reduceMul, Nat.reduceLT, Nat.reduceBEq, Nat.reduceLeDiff, Nat.reduceSub, List.size_toArray]
  refine ITri.seq ?_
  refine ITri.seq ?_
  refine ITri.reg pokT ?_; simp -implicitDefEqProofs (disch := first | decide | exact of_eq_true (eq_true rfl) | omega | assumption) only [ ↓vcD, vcE, evs, evP, evB, intsOf, fillC, Value.cells, pt, List.append_nil, List.nil_append, List.cons_append, List.length_cons, List.length_nil, List.filter_nil, List.map_nil, ↓List.getElem?_cons_zero, ↓List.getElem?_cons_succ, List.getElem?_cons_zero, List.getElem?_cons_succ, List.set_cons_zero, List.set_cons_succ, Option.join_some, Option.join_none, Option.map_some, List.all_cons, List.all_nil, Value.oneCell', reduceIte, reduceCtorEq, Nat.reduceEqDiff, Nat.reduceAdd, Nat.reduceMul, Nat.reduceLT, Nat.reduceBEq, Nat.reduceLeDiff, Nat.reduceSub, List.size_toArray]
  refine ITri.block ?_
  refine ITri.loop (fun k : Nat => [(2, .slice (some ⟨1, 0, none⟩) k openB), (4, .int .i64 n), (5, .int .i64 k)]) (fun _ => []) (fun k => Hp 1 [none, some (.cells ⟨rows eN (upN 0 k), 1, true⟩)]) (fun k => k ≤ n) (fun k => n - k) 0 (Nat.zero_le _) (Wk.gc [0, 1] [(1, .nil)] (of_decide_eq_true rfl) (of_decide_eq_true rfl) rfl rfl (of_decide_eq_true rfl) rfl rfl (by repeat (first | exact xiOK_nil | refine xiOK_cons (by first | trivial | exact roomOK _ (by decide)) ?_)) rfl (by simp -implicitDefEqProofs (disch := first | decide | exact of_eq_true (eq_true rfl) | omega | assumption) only [upN, rows_nil, objOK, sgL, xiL, objAt, nilO, OM, mvL, mv, mvS, okS, okP, mvL_rows, okML, okM, okML_rows, List.getElem?_cons_zero, Option.getD_some, implies_true, imp_self, ne_eq, and_self, true_or, or_true, Nat.zero_mul, Nat.sub_self, openB_self, ↓vcD, vcE, evs, evP, evB, intsOf, fillC, Value.cells, pt, List.append_nil, List.nil_append, List.cons_append, List.length_cons, List.length_nil, List.filter_nil, List.map_nil, ↓List.getElem?_cons_zero, ↓List.getElem?_cons_succ, List.getElem?_cons_zero, List.getElem?_cons_succ, List.set_cons_zero, List.set_cons_succ, Option.join_some, Option.join_none, Option.map_some, List.all_cons, List.all_nil, Value.oneCell', reduceIte, reduceCtorEq, Nat.reduceEqDiff, Nat.reduceAdd, Nat.reduceMul, Nat.reduceLT, Nat.reduceBEq, Nat.reduceLeDiff, Nat.reduceSub, List.size_toArray]) (by simp -implicitDefEqProofs (disch := first | decide | exact of_eq_true (eq_true rfl) | omega | assumption) only [upN, rows_nil, valOK, sgL, xiL, mv, mvA, mvL, mvS, okS, okP, okM, okMA, okML, Option.getD_some, implies_true, and_self, true_or, or_true, Int.natCast_add, Int.cast_ofNat_Int, Nat.zero_mul, Nat.sub_self, openB_self, ↓vcD, vcE, evs, evP, evB, intsOf, fillC, Value.cells, pt, List.append_nil, List.nil_append, List.cons_append, List.length_cons, List.length_nil, List.filter_nil, List.map_nil, ↓List.getElem?_cons_zero, ↓List.getElem?_cons_succ, List.getElem?_cons_zero, List.getElem?_cons_succ, List.set_cons_zero, List.set_cons_succ, Option.join_some, Option.join_none, Option.map_some, List.all_cons, List.all_nil, Value.oneCell', reduceIte, reduceCtorEq, Nat.reduceEqDiff, Nat.reduceAdd, Nat.reduceMul, Nat.reduceLT, Nat.reduceBEq, Nat.reduceLeDiff, Nat.reduceSub, List.size_toArray]) (fun _ h => by cases h) ⟨rfl, fun _ h => by cases h⟩) fun k hk => ?_
  refine ITri.seq ?_
  refine ITri.reg pokT ?_; simp -implicitDefEqProofs (disch := first | decide | exact of_eq_true (eq_true rfl) | omega | assumption) only [ ↓vcD, vcE, evs, evP, evB, intsOf, fillC, Value.cells, pt, List.append_nil, List.nil_append, List.cons_append, List.length_cons, List.length_nil, List.filter_nil, List.map_nil, ↓List.getElem?_cons_zero, ↓List.getElem?_cons_succ, List.getElem?_cons_zero, List.getElem?_cons_succ, List.set_cons_zero, List.set_cons_succ, Option.join_some, Option.join_none, Option.map_some, List.all_cons, List.all_nil, Value.oneCell', reduceIte, reduceCtorEq, Nat.reduceEqDiff, Nat.reduceAdd, Nat.reduceMul, Nat.reduceLT, Nat.reduceBEq, Nat.reduceLeDiff, Nat.reduceSub, List.size_toArray]
  refine ITri.seq ?_
  refine ITri.condD (by rfl) (fun h2 => ?_) (fun h2 => ?_) -- %6
  · refine ITri.skip ?_; simp only [SeqQ_normal, BlkQ_normal]
    refine ITri.seq ?_
    refine ITri.block ?_ -- 1
    refine ITri.seq ?_
    refine ITri.reg pokT ?_; simp -implicitDefEqProofs (disch := first | decide | exact of_eq_true (eq_true rfl) | omega | assumption) only [ ↓vcD, vcE, evs, evP, evB, intsOf, fillC, Value.cells, pt, List.append_nil, List.nil_append, List.cons_append, List.length_cons, List.length_nil, List.filter_nil, List.map_nil, ↓List.getElem?_cons_zero, ↓List.getElem?_cons_succ, List.getElem?_cons_zero, List.getElem?_cons_succ, List.set_cons_zero, List.set_cons_succ, Option.join_some, Option.join_none, Option.map_some, List.all_cons, List.all_nil, Value.oneCell', reduceIte, reduceCtorEq, Nat.reduceEqDiff, Nat.reduceAdd, Nat.reduceMul, Nat.reduceLT, Nat.reduceBEq, Nat.reduceLeDiff, Nat.reduceSub, List.size_toArray]
    have hl : (rows eN (upN 0 k)).length = k * 1 := by rw [rows_len, upN_len]
    refine ITri.reg pokT ?_; simp -implicitDefEqProofs (disch := first | decide | exact of_eq_true (eq_true rfl) | omega | assumption) only [ ↓vcD, vcE, evs, evP, evB, intsOf, fillC, Value.cells, pt, List.append_nil, List.nil_append, List.cons_append, List.length_cons, List.length_nil, List.filter_nil, List.map_nil, ↓List.getElem?_cons_zero, ↓List.getElem?_cons_succ, List.getElem?_cons_zero, List.getElem?_cons_succ, List.set_cons_zero, List.set_cons_succ, Option.join_some, Option.join_none, Option.map_some, List.all_cons, List.all_nil, Value.oneCell', reduceIte, reduceCtorEq, Nat.reduceEqDiff, Nat.reduceAdd, Nat.reduceMul, Nat.reduceLT, Nat.reduceBEq, Nat.reduceLeDiff, Nat.reduceSub, List.size_toArray]
    refine ITri.reg pokT ?_; simp -implicitDefEqProofs (disch := first | decide | exact of_eq_true (eq_true rfl) | omega | assumption) only [ ↓vcD, vcE, evs, evP, evB, intsOf, fillC, Value.cells, pt, List.append_nil, List.nil_append, List.cons_append, List.length_cons, List.length_nil, List.filter_nil, List.map_nil, ↓List.getElem?_cons_zero, ↓List.getElem?_cons_succ, List.getElem?_cons_zero, List.getElem?_cons_succ, List.set_cons_zero, List.set_cons_succ, Option.join_some, Option.join_none, Option.map_some, List.all_cons, List.all_nil, Value.oneCell', reduceIte, reduceCtorEq, Nat.reduceEqDiff, Nat.reduceAdd, Nat.reduceMul, Nat.reduceLT, Nat.reduceBEq, Nat.reduceLeDiff, Nat.reduceSub, List.size_toArray]
    have eu : rows eN (upN 0 (k + 1)) = rows eN (upN 0 k) ++ [.int .i64 k] := by rw [upN_snoc, rows_append]; simp [rows]
    rw [← eu]
    refine LoopQ.next (k + 1) (by omega) (by omega) (Wk.gc [0, 3] [] (of_decide_eq_true rfl) (of_decide_eq_true rfl) rfl rfl (of_decide_eq_true rfl) rfl rfl (by repeat (first | exact xiOK_nil | refine xiOK_cons (by first | trivial | exact roomOK _ (by decide)) ?_)) rfl (by simp -implicitDefEqProofs (disch := first | decide | exact of_eq_true (eq_true rfl) | omega | assumption) only [ objOK, sgL, xiL, objAt, nilO, OM, mvL, mv, mvS, okS, okP, mvL_rows, okML, okM, okML_rows, List.getElem?_cons_zero, Option.getD_some, implies_true, imp_self, ne_eq, and_self, true_or, or_true, Nat.zero_mul, Nat.sub_self, openB_self, ↓vcD, vcE, evs, evP, evB, intsOf, fillC, Value.cells, pt, List.append_nil, List.nil_append, List.cons_append, List.length_cons, List.length_nil, List.filter_nil, List.map_nil, ↓List.getElem?_cons_zero, ↓List.getElem?_cons_succ, List.getElem?_cons_zero, List.getElem?_cons_succ, List.set_cons_zero, List.set_cons_succ, Option.join_some, Option.join_none, Option.map_some, List.all_cons, List.all_nil, Value.oneCell', reduceIte, reduceCtorEq, Nat.reduceEqDiff, Nat.reduceAdd, Nat.reduceMul, Nat.reduceLT, Nat.reduceBEq, Nat.reduceLeDiff, Nat.reduceSub, List.size_toArray]) (by simp -implicitDefEqProofs (disch := first | decide | exact of_eq_true (eq_true rfl) | omega | assumption) only [ valOK, sgL, xiL, mv, mvA, mvL, mvS, okS, okP, okM, okMA, okML, Option.getD_some, implies_true, and_self, true_or, or_true, Int.natCast_add, Int.cast_ofNat_Int, Nat.zero_mul, Nat.sub_self, openB_self, ↓vcD, vcE, evs, evP, evB, intsOf, fillC, Value.cells, pt, List.append_nil, List.nil_append, List.cons_append, List.length_cons, List.length_nil, List.filter_nil, List.map_nil, ↓List.getElem?_cons_zero, ↓List.getElem?_cons_succ, List.getElem?_cons_zero, List.getElem?_cons_succ, List.set_cons_zero, List.set_cons_succ, Option.join_some, Option.join_none, Option.map_some, List.all_cons, List.all_nil, Value.oneCell', reduceIte, reduceCtorEq, Nat.reduceEqDiff, Nat.reduceAdd, Nat.reduceMul, Nat.reduceLT, Nat.reduceBEq, Nat.reduceLeDiff, Nat.reduceSub, List.size_toArray]) (fun _ h => by cases h) ⟨rfl, fun _ h => by cases h⟩)
  refine ITri.exit ?_; try simp -implicitDefEqProofs (disch := first | decide | exact of_eq_true (eq_true rfl) | omega | assumption) only [ ↓vcD, vcE, evs, evP, evB, intsOf, fillC, Value.cells, pt, List.append_nil, List.nil_append, List.cons_append, List.length_cons, List.length_nil, List.filter_nil, List.map_nil, ↓List.getElem?_cons_zero, ↓List.getElem?_cons_succ, List.getElem?_cons_zero, List.getElem?_cons_succ, List.set_cons_zero, List.set_cons_succ, Option.join_some, Option.join_none, Option.map_some, List.all_cons, List.all_nil, Value.oneCell', reduceIte, reduceCtorEq, Nat.reduceEqDiff, Nat.reduceAdd, Nat.reduceMul, Nat.reduceLT, Nat.reduceBEq, Nat.reduceLeDiff, Nat.reduceSub, List.size_toArray]
  refine ITri.seq ?_
  refine ITri.reg pokT ?_; simp -implicitDefEqProofs (disch := first | decide | exact of_eq_true (eq_true rfl) | omega | assumption) only [ ↓vcD, vcE, evs, evP, evB, intsOf, fillC, Value.cells, pt, List.append_nil, List.nil_append, List.cons_append, List.length_cons, List.length_nil, List.filter_nil, List.map_nil, ↓List.getElem?_cons_zero, ↓List.getElem?_cons_succ, List.getElem?_cons_zero, List.getElem?_cons_succ, List.set_cons_zero, List.set_cons_succ, Option.join_some, Option.join_none, Option.map_some, List.all_cons, List.all_nil, Value.oneCell', reduceIte, reduceCtorEq, Nat.reduceEqDiff, Nat.reduceAdd, Nat.reduceMul, Nat.reduceLT, Nat.reduceBEq, Nat.reduceLeDiff, Nat.reduceSub, List.size_toArray]
  obtain rfl : n = k := by omega
  refine ITri.ret ?_; exact end_own (by omega) (rows_no _) rfl rfl
theorem numbers_f (n : Nat) (h1 : 1 ≤ n) (hn : n ≤ 1000) {h : AH} (h0 : h.sees 0 = true) : Fc Try.prog 72 [.int .i64 n] h (.slice (some ⟨h.next, 0, none⟩) n openB) (h.new (.cells ⟨rows eN (upN 0 n), 1, true⟩)) :=
  Fc.lift (cs := []) (os := [(n, rows eN (upN 0 n), 1)]) (mk := fun ss => [.int .i64 n] ++ ss ++ []) (mkv := fun ss => ss.headD undef) (ss := []) (fun caps hc => by
    obtain rfl : caps = [] := List.eq_nil_of_length_eq_zero hc
    exact numbers_c n h1 hn) (MkL.mid rfl rfl) MkV.one (fun p hp => by cases hp) (fun o ho => by
    simp only [List.mem_singleton] at ho
    subst ho
    exact rows_no _) h0 trivial

/-- A contract that reads a slice and a row with open room. -/
theorem Fc.liftJ {P : Program} {f n m kj : Nat} {cs ds mid : List Value} {v : Value} (hv : noAddr v = true) (hm : noAddrL mid = true) (hcs : noAddrL cs = true) (hds : noAddrL ds = true)
    (F : ∀ c : Nat, Fc P f (.slice (some ⟨1, 0, none⟩) n c :: (mid ++ [.slice (some ⟨2, 0, none⟩) m openB])) (Hp 3 [none, some (.cells ⟨cs, 0, false⟩), some (.cells ⟨ds, 0, false⟩)]) v (Hp 3 [none, some (.cells ⟨cs, 0, false⟩), some (.cells ⟨ds, 0, false⟩)])) {h : AH} {s : Value} (h0 : h.sees 0 = true) (r : Rd h s n cs) (r2 : RdAt h (kj, 0, false) m ds) :
    Fc P f (s :: (mid ++ [.slice (some ⟨kj, 0, none⟩) m openB])) h v h := by
  obtain ⟨p, c, rfl, h1, h2⟩ := r
  refine Fc.frameL (os := []) (F c) [(0, 0, false), p, (kj, 0, false)] rfl ⟨fr_none h0, fr_rd rfl h1 hcs, fr_rd rfl r2 hds, trivial⟩ ?_ (okM_noAddr _ _ _ hv) (fun o ho => by cases ho) ?_ (mw_noAddr _ _ hv) rfl
  · refine ⟨okM_sl rfl (show 1 < 3 by decide) h1 h2, okML_app.2 ⟨okML_noAddr _ _ _ hm, ?_, trivial⟩⟩
    exact okM_sl (p := (kj, 0, false)) rfl (show 2 < 3 by decide) r2 (fun e => by cases e)
  · show mw _ _ :: mwL _ _ = _
    rw [mwL_app, mwL_noAddr _ _ hm, mw_sl rfl]
    congr 2
/- boule/crop.suit · slots 39 · names 0:l 1:tolerance 2:of0 3:l 4:tolerance 5:of0 8:all 9:_ 10:i · results [6, 7] -/
def ir71_r0 : IC := .reg [⟨some 6, none, false, .alloc [(.int .i64 0), (.int .i64 0)]⟩,
  ⟨some 7, none, false, .mv (.k (.bool false))⟩] (some [0, 1, 2, 6])
def ir71_r1 : IC := .reg [⟨some 11, none, false, .mv (.t 0)⟩,
  ⟨some 12, none, false, .mv (.t 2)⟩,
  ⟨some 13, none, false, .iad 1 (.t 12) (.k (.int .i64 0))⟩,
  ⟨some 14, none, false, .ldc (.t 13)⟩,
  ⟨some 15, none, false, .iad 4 (.t 11) (.t 14)⟩,
  ⟨some 16, none, false, .lda 4 (.t 15)⟩,
  ⟨some 17, none, false, .mv (.t 1)⟩,
  ⟨some 18, none, false, .call (.f 87) [(.t 16), (.t 17)]⟩,
  ⟨some 8, none, false, .alloc [(.int .i64 0), (.int .i64 0), (.int .i64 0), (.int .i64 0)]⟩,
  ⟨none, none, false, .st 4 (.t 8) (.t 18)⟩] (some [0, 1, 2, 6, 8])
def ir71_r2 : IC := .reg [⟨some 19, none, false, .mv (.t 2)⟩,
  ⟨some 20, none, false, .gen (.slice 71 (.tmp 19) (some (.const (.int .i64 1))) none none)⟩,
  ⟨some 21, none, false, .len (.t 20)⟩,
  ⟨some 22, none, false, .mv (.k (.int .i64 0))⟩] (some [0, 1, 6, 8, 20, 21, 22])
def ir71_r3 : IC := .reg [⟨some 23, none, false, .cmp .lss (.t 22) (.t 21)⟩] (some [0, 1, 6, 8, 20, 21, 22, 23])
def ir71_1 : IC := .cond (.t 23) .skip (.exit 0)
def ir71_r4 : IC := .reg [⟨some 24, none, false, .iad 1 (.t 20) (.t 22)⟩,
  ⟨some 25, none, false, .ldc (.t 24)⟩,
  ⟨some 10, none, false, .mv (.t 25)⟩] (some [0, 1, 6, 8, 10, 20, 21, 22])
def ir71_r5 : IC := .draw [(⟨some 26, none, false, .lda 4 (.t 8)⟩, false, 0, 1),
  (⟨some 27, none, false, .mv (.t 0)⟩, false, 0, 0),
  (⟨some 28, none, false, .mv (.t 10)⟩, false, 0, 0),
  (⟨some 29, none, false, .iad 4 (.t 27) (.t 28)⟩, false, 6, 0),
  (⟨some 30, none, false, .lda 4 (.t 29)⟩, false, 14, 1),
  (⟨some 31, none, false, .mv (.t 1)⟩, false, 0, 0),
  (⟨some 32, none, false, .call (.f 87) [(.t 30), (.t 31)]⟩, false, 62, 1),
  (⟨some 33, none, false, .call (.f 88) [(.t 26), (.t 32)]⟩, true, 127, 1),
  (⟨none, none, false, .st 4 (.t 8) (.t 33)⟩, true, 255, 1)] (some [0, 1, 6, 8, 20, 21, 22])
def ir71_2 : IC := .seq ir71_r4 ir71_r5
def ir71_3 : IC := .block 1 ir71_2
def ir71_r6 : IC := .reg [⟨some 34, none, false, .ar .add (.t 22) (.k (.int .i64 1))⟩,
  ⟨some 22, none, false, .mv (.t 34)⟩] (some [0, 1, 6, 8, 20, 21, 22])
def ir71_4 : IC := .seq ir71_3 ir71_r6
def ir71_5 : IC := .seq ir71_1 ir71_4
def ir71_6 : IC := .seq ir71_r3 ir71_5
def ir71_7 : IC := .loop ir71_6
def ir71_8 : IC := .block 0 ir71_7
def ir71_9 : IC := .seq ir71_r2 ir71_8
def ir71_r7 : IC := .reg [⟨some 35, none, false, .lda 4 (.t 8)⟩,
  ⟨some 36, none, false, .call (.f 89) [(.t 35)]⟩,
  ⟨some 37, none, false, .ext (.t 36) 0⟩,
  ⟨some 38, none, false, .ext (.t 36) 1⟩,
  ⟨none, none, false, .st 2 (.t 6) (.t 37)⟩,
  ⟨some 7, none, false, .mv (.t 38)⟩] (some [6, 7])
def ir71_10 : IC := .seq ir71_r7 .ret
def ir71_11 : IC := .seq ir71_9 ir71_10
def ir71_12 : IC := .seq ir71_r1 ir71_11
def ir71_13 : IC := .seq ir71_r0 ir71_12
def ir71 : IC := ir71_13
theorem fn71 : FnIs Try.prog 71 ir71 39 [.cell 6 86, .tmp 7] := ⟨Try.f71, Try.f71.body.getD .skip, Try.func71, by kernel_rfl, by kernel_rfl, by kernel_rfl, by kernel_rfl⟩
/- boule/crop.Turn · slots 29 · names 0:l 1:tolerance 2:l 3:tolerance 6:e 7:x 8:ok · results [4, 5] -/
def ir40_r0 : IC := .reg [⟨some 4, none, false, .alloc [(.int .i64 0), (.int .i64 0)]⟩,
  ⟨some 5, none, false, .mv (.k (.int .i64 0))⟩] (some [0, 1, 4])
def ir40_r1 : IC := .reg [⟨some 9, none, false, .mv (.t 0)⟩,
  ⟨some 10, none, false, .mv (.t 1)⟩,
  ⟨some 11, none, false, .call (.f 70) [(.t 9), (.t 10)]⟩,
  ⟨some 6, none, false, .mv (.t 11)⟩] (some [0, 1, 4, 6])
def ir40_r2 : IC := .reg [⟨some 12, none, false, .mv (.t 6)⟩,
  ⟨some 13, none, false, .cmp .neq (.t 12) (.k (.int .i64 0))⟩] (some [0, 1, 4, 6, 13])
def ir40_r3 : IC := .reg [⟨some 14, none, false, .bld [(.int .i64 0), (.int .i64 0)] []⟩,
  ⟨some 15, none, false, .mv (.t 6)⟩,
  ⟨none, none, false, .st 2 (.t 4) (.t 14)⟩,
  ⟨some 5, none, false, .mv (.t 15)⟩] (some [4, 5])
def ir40_1 : IC := .seq ir40_r3 .ret
def ir40_2 : IC := .cond (.t 13) ir40_1 .skip
def ir40_3 : IC := .seq ir40_r2 ir40_2
def ir40_4 : IC := .seq ir40_r1 ir40_3
def ir40_r4 : IC := .reg [⟨some 17, none, false, .mv (.t 0)⟩,
  ⟨some 18, none, false, .mv (.t 1)⟩,
  ⟨some 19, none, false, .mv (.t 0)⟩,
  ⟨some 20, none, false, .len (.t 19)⟩,
  ⟨some 21, none, false, .call (.f 72) [(.t 20)]⟩,
  ⟨some 22, none, false, .call (.f 71) [(.t 17), (.t 18), (.t 21)]⟩,
  ⟨some 16, none, false, .mv (.t 22)⟩,
  ⟨some 23, none, false, .ext (.t 16) 0⟩,
  ⟨some 24, none, false, .ext (.t 16) 1⟩,
  ⟨some 7, none, false, .alloc [(.int .i64 0), (.int .i64 0)]⟩,
  ⟨none, none, false, .st 2 (.t 7) (.t 23)⟩,
  ⟨some 8, none, false, .mv (.t 24)⟩] (some [4, 7, 8])
def ir40_r5 : IC := .reg [⟨some 25, none, false, .mv (.t 8)⟩,
  ⟨some 26, none, false, .not (.t 25)⟩] (some [4, 7, 26])
def ir40_r6 : IC := .reg [⟨some 27, none, false, .bld [(.int .i64 0), (.int .i64 0)] []⟩,
  ⟨none, none, false, .st 2 (.t 4) (.t 27)⟩,
  ⟨some 5, none, false, .mv (.k (.int .i64 72))⟩] (some [4, 5])
def ir40_5 : IC := .seq ir40_r6 .ret
def ir40_6 : IC := .cond (.t 26) ir40_5 .skip
def ir40_7 : IC := .seq ir40_r5 ir40_6
def ir40_r7 : IC := .reg [⟨some 28, none, false, .lda 2 (.t 7)⟩,
  ⟨none, none, false, .st 2 (.t 4) (.t 28)⟩,
  ⟨some 5, none, false, .mv (.k (.int .i64 0))⟩] (some [4, 5])
def ir40_8 : IC := .seq ir40_r7 .ret
def ir40_9 : IC := .seq ir40_7 ir40_8
def ir40_10 : IC := .seq ir40_r4 ir40_9
def ir40_11 : IC := .seq ir40_4 ir40_10
def ir40_12 : IC := .seq ir40_r0 ir40_11
def ir40 : IC := ir40_12
theorem fn40 : FnIs Try.prog 40 ir40 29 [.cell 4 86, .tmp 5] := ⟨Try.f40, Try.f40.body.getD .skip, Try.func40, by kernel_rfl, by kernel_rfl, by kernel_rfl, by kernel_rfl⟩
theorem suit_c (n c : Nat) (l : List Tl) (tol : Int) (m : Nat) (js : List Int) (hn : l.length = n) (hm : js.length = m) (hm1 : 1 ≤ m) (hmb : m ≤ 1000) (hj : ∀ j ∈ js, 0 ≤ j ∧ j < n) (ht : ∀ i, i < n → tltB (nth l i) = true) (h0 : 0 ≤ tol) (h1 : tol ≤ 36000) :
    Fc Try.prog 71 [sT n c, .int .i64 tol, .slice (some ⟨2, 0, none⟩) m openB] (Hp 3 [none, some (.cells ⟨rows eT l, 0, false⟩), some (.cells ⟨rows eN js, 0, false⟩)]) (.tuple #[.agg #[.int .i64 (firstF (sqL l tol js)).1, .int .i64 (firstF (sqL l tol js)).2.1], .bool (firstF (sqL l tol js)).2.2]) (Hp 3 [none, some (.cells ⟨rows eT l, 0, false⟩), some (.cells ⟨rows eN js, 0, false⟩)]) := by
  have hjk : ∀ k, k < m → 0 ≤ nth js k ∧ nth js k < n := fun k hk => hj _ (nth_mem (by omega))
  obtain ⟨j0, jr, rfl⟩ : ∃ j0 jr, js = j0 :: jr := by
    cases js with
    | nil => simp at hm; omega
    | cons a b => exact ⟨a, b, rfl⟩
  have hj0 := hj j0 (by simp)
  have hs0 : smS (ofF (nth l j0.toNat) tol) := sm_of (ht _ (by omega)) h0 h1
  refine Fc.intro0 fn71 (by simp) rfl rfl ?_; simp only [argF]
  refine ITri.seq ?_
  refine ITri.reg pokT ?_; simp -implicitDefEqProofs (disch := first | decide | exact of_eq_true (eq_true rfl) | omega | assumption) only [ ↓vcD, vcE, evs, evP, evB, intsOf, fillC, Value.cells, pt, List.append_nil, List.nil_append, List.cons_append, List.length_cons, List.length_nil, List.filter_nil, List.map_nil, ↓List.getElem?_cons_zero, ↓List.getElem?_cons_succ, List.getElem?_cons_zero, List.getElem?_cons_succ, List.set_cons_zero, List.set_cons_succ, Option.join_some, Option.join_none, Option.map_some, List.all_cons, List.all_nil, Value.oneCell', reduceIte, reduceCtorEq, Nat.reduceEqDiff, Nat.reduceAdd, Nat.reduceMul, Nat.reduceLT, Nat.reduceBEq, Nat.reduceLeDiff, Nat.reduceSub, List.size_toArray]
  refine ITri.seq ?_
  have g0 : (rows eN (j0 :: jr))[0]? = some (.int .i64 j0) := rfl
  have hlt : j0 < (n : Int) := hj0.2
  have hge : 0 ≤ j0 := hj0.1
  have htk : takeC (rows eT l) (j0.toNat * 4) 4 = some (eT (nth l j0.toNat)) := takeT (by omega)
  refine ITri.reg pokT ?_; simp -implicitDefEqProofs (disch := first | decide | exact of_eq_true (eq_true rfl) | omega | assumption) only [htk, g0, Int.toNat_zero, Nat.zero_mul,  ↓vcD, vcE, evs, evP, evB, intsOf, fillC, Value.cells, pt, List.append_nil, List.nil_append, List.cons_append, List.length_cons, List.length_nil, List.filter_nil, List.map_nil, ↓List.getElem?_cons_zero, ↓List.getElem?_cons_succ, List.getElem?_cons_zero, List.getElem?_cons_succ, List.set_cons_zero, List.set_cons_succ, Option.join_some, Option.join_none, Option.map_some, List.all_cons, List.all_nil, Value.oneCell', reduceIte, reduceCtorEq, Nat.reduceEqDiff, Nat.reduceAdd, Nat.reduceMul, Nat.reduceLT, Nat.reduceBEq, Nat.reduceLeDiff, Nat.reduceSub, List.size_toArray]
  refine ⟨_, _, of_f (nth l j0.toNat) tol (ht _ (by omega)) h0 h1 (sees0 rfl (of_decide_eq_true rfl)), ?_⟩
  try simp -implicitDefEqProofs (disch := first | decide | exact of_eq_true (eq_true rfl) | omega | assumption) only [ ↓vcD, vcE, evs, evP, evB, intsOf, fillC, Value.cells, pt, List.append_nil, List.nil_append, List.cons_append, List.length_cons, List.length_nil, List.filter_nil, List.map_nil, ↓List.getElem?_cons_zero, ↓List.getElem?_cons_succ, List.getElem?_cons_zero, List.getElem?_cons_succ, List.set_cons_zero, List.set_cons_succ, Option.join_some, Option.join_none, Option.map_some, List.all_cons, List.all_nil, Value.oneCell', reduceIte, reduceCtorEq, Nat.reduceEqDiff, Nat.reduceAdd, Nat.reduceMul, Nat.reduceLT, Nat.reduceBEq, Nat.reduceLeDiff, Nat.reduceSub, List.size_toArray]
  refine ITri.seq ?_
  refine ITri.seq ?_
  by_cases hm2 : m = 1
  · subst hm2
    obtain rfl : jr = [] := List.eq_nil_of_length_eq_zero (by simpa using hm)
    refine ITri.reg pokT ?_; simp -implicitDefEqProofs (disch := first | decide | exact of_eq_true (eq_true rfl) | omega | assumption) only [ ↓vcD, vcE, evs, evP, evB, intsOf, fillC, Value.cells, pt, List.append_nil, List.nil_append, List.cons_append, List.length_cons, List.length_nil, List.filter_nil, List.map_nil, ↓List.getElem?_cons_zero, ↓List.getElem?_cons_succ, List.getElem?_cons_zero, List.getElem?_cons_succ, List.set_cons_zero, List.set_cons_succ, Option.join_some, Option.join_none, Option.map_some, List.all_cons, List.all_nil, Value.oneCell', reduceIte, reduceCtorEq, Nat.reduceEqDiff, Nat.reduceAdd, Nat.reduceMul, Nat.reduceLT, Nat.reduceBEq, Nat.reduceLeDiff, Nat.reduceSub, List.size_toArray]
    refine gen_from1e u_sl i_int rfl ?_
    rw [Hq_bump]
    try simp -implicitDefEqProofs (disch := first | decide | exact of_eq_true (eq_true rfl) | omega | assumption) only [ ↓vcD, vcE, evs, evP, evB, intsOf, fillC, Value.cells, pt, List.append_nil, List.nil_append, List.cons_append, List.length_cons, List.length_nil, List.filter_nil, List.map_nil, ↓List.getElem?_cons_zero, ↓List.getElem?_cons_succ, List.getElem?_cons_zero, List.getElem?_cons_succ, List.set_cons_zero, List.set_cons_succ, Option.join_some, Option.join_none, Option.map_some, List.all_cons, List.all_nil, Value.oneCell', reduceIte, reduceCtorEq, Nat.reduceEqDiff, Nat.reduceAdd, Nat.reduceMul, Nat.reduceLT, Nat.reduceBEq, Nat.reduceLeDiff, Nat.reduceSub, List.size_toArray]
    refine ITri.block ?_
    refine ITri.loop (fun _ : Unit => [(6, pt 3), (8, pt 4), (21, .int .i64 0), (22, .int .i64 0)]) (fun _ => []) (fun _ => Hp 3 [none, some (.cells ⟨rows eT l, 0, false⟩), some (.cells ⟨rows eN [j0], 0, false⟩), some (.cells ⟨[.int .i64 0, .int .i64 0], 1, false⟩), some (.cells ⟨eT (ofF (nth l j0.toNat) tol), 1, false⟩)]) (fun _ => True) (fun _ => 0) () trivial (Wk.gc [0, 1, 2, 3, 4] [] (of_decide_eq_true rfl) (of_decide_eq_true rfl) rfl rfl (of_decide_eq_true rfl) rfl rfl (by repeat (first | exact xiOK_nil | refine xiOK_cons (by first | trivial | exact roomOK _ (by decide)) ?_)) rfl (by simp -implicitDefEqProofs (disch := first | decide | exact of_eq_true (eq_true rfl) | omega | assumption) only [eT, objOK, sgL, xiL, objAt, nilO, OM, mvL, mv, mvS, okS, okP, mvL_rows, okML, okM, okML_rows, List.getElem?_cons_zero, Option.getD_some, implies_true, imp_self, ne_eq, and_self, true_or, or_true, Nat.zero_mul, Nat.sub_self, openB_self, ↓vcD, vcE, evs, evP, evB, intsOf, fillC, Value.cells, pt, List.append_nil, List.nil_append, List.cons_append, List.length_cons, List.length_nil, List.filter_nil, List.map_nil, ↓List.getElem?_cons_zero, ↓List.getElem?_cons_succ, List.getElem?_cons_zero, List.getElem?_cons_succ, List.set_cons_zero, List.set_cons_succ, Option.join_some, Option.join_none, Option.map_some, List.all_cons, List.all_nil, Value.oneCell', reduceIte, reduceCtorEq, Nat.reduceEqDiff, Nat.reduceAdd, Nat.reduceMul, Nat.reduceLT, Nat.reduceBEq, Nat.reduceLeDiff, Nat.reduceSub, List.size_toArray]) (by simp -implicitDefEqProofs (disch := first | decide | exact of_eq_true (eq_true rfl) | omega | assumption) only [eT, valOK, sgL, xiL, mv, mvA, mvL, mvS, okS, okP, okM, okMA, okML, Option.getD_some, implies_true, and_self, true_or, or_true, Int.natCast_add, Int.cast_ofNat_Int, Nat.zero_mul, Nat.sub_self, openB_self, ↓vcD, vcE, evs, evP, evB, intsOf, fillC, Value.cells, pt, List.append_nil, List.nil_append, List.cons_append, List.length_cons, List.length_nil, List.filter_nil, List.map_nil, ↓List.getElem?_cons_zero, ↓List.getElem?_cons_succ, List.getElem?_cons_zero, List.getElem?_cons_succ, List.set_cons_zero, List.set_cons_succ, Option.join_some, Option.join_none, Option.map_some, List.all_cons, List.all_nil, Value.oneCell', reduceIte, reduceCtorEq, Nat.reduceEqDiff, Nat.reduceAdd, Nat.reduceMul, Nat.reduceLT, Nat.reduceBEq, Nat.reduceLeDiff, Nat.reduceSub, List.size_toArray]) (fun _ h => by cases h) ⟨rfl, fun _ h => by cases h⟩) fun k hk => ?_
    refine ITri.seq ?_
    refine ITri.reg pokT ?_; simp -implicitDefEqProofs (disch := first | decide | exact of_eq_true (eq_true rfl) | omega | assumption) only [Int.lt_irrefl, decide_false,  ↓vcD, vcE, evs, evP, evB, intsOf, fillC, Value.cells, pt, List.append_nil, List.nil_append, List.cons_append, List.length_cons, List.length_nil, List.filter_nil, List.map_nil, ↓List.getElem?_cons_zero, ↓List.getElem?_cons_succ, List.getElem?_cons_zero, List.getElem?_cons_succ, List.set_cons_zero, List.set_cons_succ, Option.join_some, Option.join_none, Option.map_some, List.all_cons, List.all_nil, Value.oneCell', reduceIte, reduceCtorEq, Nat.reduceEqDiff, Nat.reduceAdd, Nat.reduceMul, Nat.reduceLT, Nat.reduceBEq, Nat.reduceLeDiff, Nat.reduceSub, List.size_toArray]
    refine ITri.seq ?_
    refine ITri.cond (v := false) rfl (fun h => by cases h) (fun _ => ?_)
    refine ITri.exit ?_; try simp -implicitDefEqProofs (disch := first | decide | exact of_eq_true (eq_true rfl) | omega | assumption) only [ ↓vcD, vcE, evs, evP, evB, intsOf, fillC, Value.cells, pt, List.append_nil, List.nil_append, List.cons_append, List.length_cons, List.length_nil, List.filter_nil, List.map_nil, ↓List.getElem?_cons_zero, ↓List.getElem?_cons_succ, List.getElem?_cons_zero, List.getElem?_cons_succ, List.set_cons_zero, List.set_cons_succ, Option.join_some, Option.join_none, Option.map_some, List.all_cons, List.all_nil, Value.oneCell', reduceIte, reduceCtorEq, Nat.reduceEqDiff, Nat.reduceAdd, Nat.reduceMul, Nat.reduceLT, Nat.reduceBEq, Nat.reduceLeDiff, Nat.reduceSub, List.size_toArray]
    refine ITri.seq ?_
    have e4 : ∀ x, takeC (eT x) 0 4 = some (eT x) := fun x => rfl
    refine ITri.reg pokT ?_; simp -implicitDefEqProofs (disch := first | decide | exact of_eq_true (eq_true rfl) | omega | assumption) only [e4,  ↓vcD, vcE, evs, evP, evB, intsOf, fillC, Value.cells, pt, List.append_nil, List.nil_append, List.cons_append, List.length_cons, List.length_nil, List.filter_nil, List.map_nil, ↓List.getElem?_cons_zero, ↓List.getElem?_cons_succ, List.getElem?_cons_zero, List.getElem?_cons_succ, List.set_cons_zero, List.set_cons_succ, Option.join_some, Option.join_none, Option.map_some, List.all_cons, List.all_nil, Value.oneCell', reduceIte, reduceCtorEq, Nat.reduceEqDiff, Nat.reduceAdd, Nat.reduceMul, Nat.reduceLT, Nat.reduceBEq, Nat.reduceLeDiff, Nat.reduceSub, List.size_toArray]
    refine ⟨_, _, first_f _ hs0 (sees0 rfl (of_decide_eq_true rfl)), ?_⟩
    try simp -implicitDefEqProofs (disch := first | decide | exact of_eq_true (eq_true rfl) | omega | assumption) only [ ↓vcD, vcE, evs, evP, evB, intsOf, fillC, Value.cells, pt, List.append_nil, List.nil_append, List.cons_append, List.length_cons, List.length_nil, List.filter_nil, List.map_nil, ↓List.getElem?_cons_zero, ↓List.getElem?_cons_succ, List.getElem?_cons_zero, List.getElem?_cons_succ, List.set_cons_zero, List.set_cons_succ, Option.join_some, Option.join_none, Option.map_some, List.all_cons, List.all_nil, Value.oneCell', reduceIte, reduceCtorEq, Nat.reduceEqDiff, Nat.reduceAdd, Nat.reduceMul, Nat.reduceLT, Nat.reduceBEq, Nat.reduceLeDiff, Nat.reduceSub, List.size_toArray]
    refine ITri.ret ?_; exact EndR.plain (vs := [.agg ⟨[.int .i64 (firstF (ofF (nth l j0.toNat) tol)).1, .int .i64 (firstF (ofF (nth l j0.toNat) tol)).2.1]⟩, .bool (firstF (ofF (nth l j0.toNat) tol)).2.2]) (by simp) (resF_agg 2 rfl (by kernel_rfl) (by simp -implicitDefEqProofs (disch := first | decide | exact of_eq_true (eq_true rfl) | omega | assumption) only [↓vcD, vcE, evs, evP, evB, intsOf, fillC, Value.cells, pt, List.append_nil, List.nil_append, List.cons_append, List.length_cons, List.length_nil, List.filter_nil, List.map_nil, ↓List.getElem?_cons_zero, ↓List.getElem?_cons_succ, List.getElem?_cons_zero, List.getElem?_cons_succ, List.set_cons_zero, List.set_cons_succ, Option.join_some, Option.join_none, Option.map_some, List.all_cons, List.all_nil, Value.oneCell', reduceIte, reduceCtorEq, Nat.reduceEqDiff, Nat.reduceAdd, Nat.reduceMul, Nat.reduceLT, Nat.reduceBEq, Nat.reduceLeDiff, Nat.reduceSub, List.size_toArray]) (resF_tmp rfl resF_nil)) (by rfl) (by rfl)
  refine ITri.reg pokT ?_; simp -implicitDefEqProofs (disch := first | decide | exact of_eq_true (eq_true rfl) | omega | assumption) only [ ↓vcD, vcE, evs, evP, evB, intsOf, fillC, Value.cells, pt, List.append_nil, List.nil_append, List.cons_append, List.length_cons, List.length_nil, List.filter_nil, List.map_nil, ↓List.getElem?_cons_zero, ↓List.getElem?_cons_succ, List.getElem?_cons_zero, List.getElem?_cons_succ, List.set_cons_zero, List.set_cons_succ, Option.join_some, Option.join_none, Option.map_some, List.all_cons, List.all_nil, Value.oneCell', reduceIte, reduceCtorEq, Nat.reduceEqDiff, Nat.reduceAdd, Nat.reduceMul, Nat.reduceLT, Nat.reduceBEq, Nat.reduceLeDiff, Nat.reduceSub, List.size_toArray]
  refine gen_from1 u_sl i_int sz_int rfl (by omega) ?_
  try simp -implicitDefEqProofs (disch := first | decide | exact of_eq_true (eq_true rfl) | omega | assumption) only [ ↓vcD, vcE, evs, evP, evB, intsOf, fillC, Value.cells, pt, List.append_nil, List.nil_append, List.cons_append, List.length_cons, List.length_nil, List.filter_nil, List.map_nil, ↓List.getElem?_cons_zero, ↓List.getElem?_cons_succ, List.getElem?_cons_zero, List.getElem?_cons_succ, List.set_cons_zero, List.set_cons_succ, Option.join_some, Option.join_none, Option.map_some, List.all_cons, List.all_nil, Value.oneCell', reduceIte, reduceCtorEq, Nat.reduceEqDiff, Nat.reduceAdd, Nat.reduceMul, Nat.reduceLT, Nat.reduceBEq, Nat.reduceLeDiff, Nat.reduceSub, List.size_toArray]
  refine ITri.block ?_
  have hjl : jr.length = m - 1 := by simp at hm; omega
  refine ITri.loop (fun q : Nat × Sq => [(0, sT n c), (1, .int .i64 tol), (6, pt 3), (8, pt 4), (20, .slice (some ⟨2, 1, none⟩) (m - 1) (openB + 1)), (21, .int .i64 ((m - 1 : Nat) : Int)), (22, .int .i64 q.1)]) (fun _ => []) (fun q => Hp 3 [none, some (.cells ⟨rows eT l, 0, false⟩), some (.cells ⟨rows eN (j0 :: jr), 0, false⟩), some (.cells ⟨[.int .i64 0, .int .i64 0], 1, false⟩), some (.cells ⟨eT q.2, 1, false⟩)]) (fun q => q.1 ≤ m - 1 ∧ smS q.2 ∧ sqL l tol (j0 :: jr) = (jr.drop q.1).foldl (fun a i => meetF a (ofF (nth l i.toNat) tol)) q.2) (fun q => m - 1 - q.1) (0, ofF (nth l j0.toNat) tol) ⟨Nat.zero_le _, hs0, rfl⟩ (Wk.sub ⟨rfl, rfl, rfl, rfl, rfl, rfl, rfl, trivial⟩) fun q hq => ?_
  obtain ⟨k, sq⟩ := q
  obtain ⟨hk, hsq, hF⟩ := hq
  simp only at hk hsq hF ⊢
  refine ITri.seq ?_
  refine ITri.reg pokT ?_; simp -implicitDefEqProofs (disch := first | decide | exact of_eq_true (eq_true rfl) | omega | assumption) only [ ↓vcD, vcE, evs, evP, evB, intsOf, fillC, Value.cells, pt, List.append_nil, List.nil_append, List.cons_append, List.length_cons, List.length_nil, List.filter_nil, List.map_nil, ↓List.getElem?_cons_zero, ↓List.getElem?_cons_succ, List.getElem?_cons_zero, List.getElem?_cons_succ, List.set_cons_zero, List.set_cons_succ, Option.join_some, Option.join_none, Option.map_some, List.all_cons, List.all_nil, Value.oneCell', reduceIte, reduceCtorEq, Nat.reduceEqDiff, Nat.reduceAdd, Nat.reduceMul, Nat.reduceLT, Nat.reduceBEq, Nat.reduceLeDiff, Nat.reduceSub, List.size_toArray]
  refine ITri.seq ?_
  refine ITri.condD (by rfl) (fun h2 => ?_) (fun h2 => ?_) -- %23
  rotate_left
  · refine ITri.exit ?_; try simp -implicitDefEqProofs (disch := first | decide | exact of_eq_true (eq_true rfl) | omega | assumption) only [ ↓vcD, vcE, evs, evP, evB, intsOf, fillC, Value.cells, pt, List.append_nil, List.nil_append, List.cons_append, List.length_cons, List.length_nil, List.filter_nil, List.map_nil, ↓List.getElem?_cons_zero, ↓List.getElem?_cons_succ, List.getElem?_cons_zero, List.getElem?_cons_succ, List.set_cons_zero, List.set_cons_succ, Option.join_some, Option.join_none, Option.map_some, List.all_cons, List.all_nil, Value.oneCell', reduceIte, reduceCtorEq, Nat.reduceEqDiff, Nat.reduceAdd, Nat.reduceMul, Nat.reduceLT, Nat.reduceBEq, Nat.reduceLeDiff, Nat.reduceSub, List.size_toArray]
    rw [List.drop_of_length_le (by omega)] at hF
    simp only [List.foldl_nil] at hF
    rw [hF]
    refine ITri.seq ?_
    have e4 : ∀ x, takeC (eT x) 0 4 = some (eT x) := fun x => rfl
    refine ITri.reg pokT ?_; simp -implicitDefEqProofs (disch := first | decide | exact of_eq_true (eq_true rfl) | omega | assumption) only [e4,  ↓vcD, vcE, evs, evP, evB, intsOf, fillC, Value.cells, pt, List.append_nil, List.nil_append, List.cons_append, List.length_cons, List.length_nil, List.filter_nil, List.map_nil, ↓List.getElem?_cons_zero, ↓List.getElem?_cons_succ, List.getElem?_cons_zero, List.getElem?_cons_succ, List.set_cons_zero, List.set_cons_succ, Option.join_some, Option.join_none, Option.map_some, List.all_cons, List.all_nil, Value.oneCell', reduceIte, reduceCtorEq, Nat.reduceEqDiff, Nat.reduceAdd, Nat.reduceMul, Nat.reduceLT, Nat.reduceBEq, Nat.reduceLeDiff, Nat.reduceSub, List.size_toArray]
    refine ⟨_, _, first_f _ hsq (sees0 rfl (of_decide_eq_true rfl)), ?_⟩
    try simp -implicitDefEqProofs (disch := first | decide | exact of_eq_true (eq_true rfl) | omega | assumption) only [ ↓vcD, vcE, evs, evP, evB, intsOf, fillC, Value.cells, pt, List.append_nil, List.nil_append, List.cons_append, List.length_cons, List.length_nil, List.filter_nil, List.map_nil, ↓List.getElem?_cons_zero, ↓List.getElem?_cons_succ, List.getElem?_cons_zero, List.getElem?_cons_succ, List.set_cons_zero, List.set_cons_succ, Option.join_some, Option.join_none, Option.map_some, List.all_cons, List.all_nil, Value.oneCell', reduceIte, reduceCtorEq, Nat.reduceEqDiff, Nat.reduceAdd, Nat.reduceMul, Nat.reduceLT, Nat.reduceBEq, Nat.reduceLeDiff, Nat.reduceSub, List.size_toArray]
    refine ITri.ret ?_; exact EndR.plain (vs := [.agg ⟨[.int .i64 (firstF sq).1, .int .i64 (firstF sq).2.1]⟩, .bool (firstF sq).2.2]) (by simp) (resF_agg 2 rfl (by kernel_rfl) (by simp -implicitDefEqProofs (disch := first | decide | exact of_eq_true (eq_true rfl) | omega | assumption) only [↓vcD, vcE, evs, evP, evB, intsOf, fillC, Value.cells, pt, List.append_nil, List.nil_append, List.cons_append, List.length_cons, List.length_nil, List.filter_nil, List.map_nil, ↓List.getElem?_cons_zero, ↓List.getElem?_cons_succ, List.getElem?_cons_zero, List.getElem?_cons_succ, List.set_cons_zero, List.set_cons_succ, Option.join_some, Option.join_none, Option.map_some, List.all_cons, List.all_nil, Value.oneCell', reduceIte, reduceCtorEq, Nat.reduceEqDiff, Nat.reduceAdd, Nat.reduceMul, Nat.reduceLT, Nat.reduceBEq, Nat.reduceLeDiff, Nat.reduceSub, List.size_toArray]) (resF_tmp rfl resF_nil)) (by rfl) (by rfl)
  have hkj : k < jr.length := by omega
  have hgk : (rows eN (j0 :: jr))[1 + k]? = some (.int .i64 (nth jr k)) := by
    rw [Nat.add_comm]
    exact getN (xs := jr) hkj
  have hin := hj (nth jr k) (by simp [nth_mem hkj])
  have hlt2 : nth jr k < (n : Int) := hin.2
  have hge2 : 0 ≤ nth jr k := hin.1
  have htk2 : takeC (rows eT l) ((nth jr k).toNat * 4) 4 = some (eT (nth l (nth jr k).toNat)) := takeT (by omega)
  have hs2 : smS (ofF (nth l (nth jr k).toNat) tol) := sm_of (ht _ (by omega)) h0 h1
  rw [List.drop_eq_getElem_cons hkj, List.foldl_cons, show jr[k] = nth jr k from (List.getElem?_eq_some_iff.1 (get_nth hkj)).2] at hF
  refine ITri.skip ?_; simp only [SeqQ_normal, BlkQ_normal]
  refine ITri.seq ?_
  refine ITri.block ?_ -- 1
  refine ITri.seq ?_
  refine ITri.reg pokT ?_; simp -implicitDefEqProofs (disch := first | decide | exact of_eq_true (eq_true rfl) | omega | assumption) only [hgk,  ↓vcD, vcE, evs, evP, evB, intsOf, fillC, Value.cells, pt, List.append_nil, List.nil_append, List.cons_append, List.length_cons, List.length_nil, List.filter_nil, List.map_nil, ↓List.getElem?_cons_zero, ↓List.getElem?_cons_succ, List.getElem?_cons_zero, List.getElem?_cons_succ, List.set_cons_zero, List.set_cons_succ, Option.join_some, Option.join_none, Option.map_some, List.all_cons, List.all_nil, Value.oneCell', reduceIte, reduceCtorEq, Nat.reduceEqDiff, Nat.reduceAdd, Nat.reduceMul, Nat.reduceLT, Nat.reduceBEq, Nat.reduceLeDiff, Nat.reduceSub, List.size_toArray]
  have e4 : ∀ x, takeC (eT x) 0 4 = some (eT x) := fun x => rfl
  refine ITri.draw pokT ?_; simp -implicitDefEqProofs (disch := first | decide | exact of_eq_true (eq_true rfl) | omega | assumption) only [e4, htk2,  ↓vcD, vcE, evs, evP, evB, intsOf, fillC, Value.cells, pt, List.append_nil, List.nil_append, List.cons_append, List.length_cons, List.length_nil, List.filter_nil, List.map_nil, ↓List.getElem?_cons_zero, ↓List.getElem?_cons_succ, List.getElem?_cons_zero, List.getElem?_cons_succ, List.set_cons_zero, List.set_cons_succ, Option.join_some, Option.join_none, Option.map_some, List.all_cons, List.all_nil, Value.oneCell', reduceIte, reduceCtorEq, Nat.reduceEqDiff, Nat.reduceAdd, Nat.reduceMul, Nat.reduceLT, Nat.reduceBEq, Nat.reduceLeDiff, Nat.reduceSub, List.size_toArray]
  refine ⟨_, _, of_f (nth l (nth jr k).toNat) tol (ht _ (by omega)) h0 h1 (sees0 rfl (of_decide_eq_true rfl)), ?_⟩
  try simp -implicitDefEqProofs (disch := first | decide | exact of_eq_true (eq_true rfl) | omega | assumption) only [ ↓vcD, vcE, evs, evP, evB, intsOf, fillC, Value.cells, pt, List.append_nil, List.nil_append, List.cons_append, List.length_cons, List.length_nil, List.filter_nil, List.map_nil, ↓List.getElem?_cons_zero, ↓List.getElem?_cons_succ, List.getElem?_cons_zero, List.getElem?_cons_succ, List.set_cons_zero, List.set_cons_succ, Option.join_some, Option.join_none, Option.map_some, List.all_cons, List.all_nil, Value.oneCell', reduceIte, reduceCtorEq, Nat.reduceEqDiff, Nat.reduceAdd, Nat.reduceMul, Nat.reduceLT, Nat.reduceBEq, Nat.reduceLeDiff, Nat.reduceSub, List.size_toArray]
  refine ⟨_, _, meet_f sq (ofF (nth l (nth jr k).toNat) tol) (sees0 rfl (of_decide_eq_true rfl)), ?_⟩
  have e5 : (eT sq).length = 4 := rfl
  simp -implicitDefEqProofs (disch := first | decide | exact of_eq_true (eq_true rfl) | omega | assumption) only [e5,  ↓vcD, vcE, evs, evP, evB, intsOf, fillC, Value.cells, pt, List.append_nil, List.nil_append, List.cons_append, List.length_cons, List.length_nil, List.filter_nil, List.map_nil, ↓List.getElem?_cons_zero, ↓List.getElem?_cons_succ, List.getElem?_cons_zero, List.getElem?_cons_succ, List.set_cons_zero, List.set_cons_succ, Option.join_some, Option.join_none, Option.map_some, List.all_cons, List.all_nil, Value.oneCell', reduceIte, reduceCtorEq, Nat.reduceEqDiff, Nat.reduceAdd, Nat.reduceMul, Nat.reduceLT, Nat.reduceBEq, Nat.reduceLeDiff, Nat.reduceSub, List.size_toArray]
  refine ITri.reg pokT ?_; simp -implicitDefEqProofs (disch := first | decide | exact of_eq_true (eq_true rfl) | omega | assumption) only [ ↓vcD, vcE, evs, evP, evB, intsOf, fillC, Value.cells, pt, List.append_nil, List.nil_append, List.cons_append, List.length_cons, List.length_nil, List.filter_nil, List.map_nil, ↓List.getElem?_cons_zero, ↓List.getElem?_cons_succ, List.getElem?_cons_zero, List.getElem?_cons_succ, List.set_cons_zero, List.set_cons_succ, Option.join_some, Option.join_none, Option.map_some, List.all_cons, List.all_nil, Value.oneCell', reduceIte, reduceCtorEq, Nat.reduceEqDiff, Nat.reduceAdd, Nat.reduceMul, Nat.reduceLT, Nat.reduceBEq, Nat.reduceLeDiff, Nat.reduceSub, List.size_toArray]
  exact LoopQ.next (k + 1, meetF sq (ofF (nth l (nth jr k).toNat) tol)) ⟨by simp only; omega, sm_meet hsq hs2, hF⟩ (by simp only; omega) (Wk.sub ⟨rfl, rfl, rfl, rfl, rfl, rfl, rfl, trivial⟩)
theorem suit_f (n : Nat) (l : List Tl) (tol : Int) (m kj : Nat) (js : List Int) (hn : l.length = n) (hm : js.length = m) (hm1 : 1 ≤ m) (hmb : m ≤ 1000) (hj : ∀ j ∈ js, 0 ≤ j ∧ j < n) (ht : ∀ i, i < n → tltB (nth l i) = true) (h0 : 0 ≤ tol) (h1 : tol ≤ 36000) {h : AH} {s : Value} (hs : h.sees 0 = true) (r : Rd h s n (rows eT l)) (r2 : RdAt h (kj, 0, false) m (rows eN js)) :
    Fc Try.prog 71 [s, .int .i64 tol, .slice (some ⟨kj, 0, none⟩) m openB] h (.tuple #[.agg #[.int .i64 (firstF (sqL l tol js)).1, .int .i64 (firstF (sqL l tol js)).2.1], .bool (firstF (sqL l tol js)).2.2]) h :=
  Fc.liftJ (mid := [.int .i64 tol]) rfl rfl (rows_no _) (rows_no _) (fun c => suit_c n c l tol m js hn hm hm1 hmb hj ht h0 h1) hs r r2
theorem rdAt_H {wl k n sz : Nat} {op : Bool} {L : List (Option AObj)} {cs : List Value} (hL : (L[k]?).join = some (.cells ⟨cs, sz, op⟩)) : RdAt (Hp wl L) (k, 0, false) n cs := by
  have hg : (Hp wl L).get k = some (.cells ⟨cs, sz, op⟩) := by rw [Hp_get, hL]
  exact ⟨get_sees hg, ⟨_, hg, ⟨[], by simp⟩, fun _ => Nat.zero_le _⟩⟩
/-- What Turn returns. -/
def turnF (l : List Tl) (tol : Int) : Int × Int × Int :=
  if ckT l tol = 0 then (if (firstF (sqL l tol (upN 0 l.length))).2.2 = true then ((firstF (sqL l tol (upN 0 l.length))).1, (firstF (sqL l tol (upN 0 l.length))).2.1, 0) else (0, 0, 72)) else (0, 0, ckT l tol)
theorem turn_f (n : Nat) (l : List Tl) (tol : Int) (hn : l.length = n) {h : AH} {s : Value} (h0 : h.sees 0 = true) (r : Rd h s n (rows eT l)) :
    Fc Try.prog 40 [s, .int .i64 tol] h (.tuple #[.agg #[.int .i64 (turnF l tol).1, .int .i64 (turnF l tol).2.1], .int .i64 (turnF l tol).2.2]) h := by
  refine Fc.lift1 (mk := fun ss => ss ++ [.int .i64 tol]) (mkv := fun _ => .tuple #[.agg #[.int .i64 (turnF l tol).1, .int .i64 (turnF l tol).2.1], .int .i64 (turnF l tol).2.2]) (os := []) (fun c => ?_) (MkL.app rfl) (MkV.const rfl) (rows_no (f := eT) l) (fun o ho => by cases ho) h0 r
  refine Fc.intro0 (h := mT (rows eT l)) fn40 (by simp) rfl rfl ?_; simp only [argF, List.cons_append, List.nil_append]
  refine ITri.seq ?_
  refine ITri.reg pokT ?_; simp -implicitDefEqProofs (disch := first | decide | exact of_eq_true (eq_true rfl) | omega | assumption) only [ ↓vcD, vcE, evs, evP, evB, intsOf, fillC, Value.cells, pt, List.append_nil, List.nil_append, List.cons_append, List.length_cons, List.length_nil, List.filter_nil, List.map_nil, ↓List.getElem?_cons_zero, ↓List.getElem?_cons_succ, List.getElem?_cons_zero, List.getElem?_cons_succ, List.set_cons_zero, List.set_cons_succ, Option.join_some, Option.join_none, Option.map_some, List.all_cons, List.all_nil, Value.oneCell', reduceIte, reduceCtorEq, Nat.reduceEqDiff, Nat.reduceAdd, Nat.reduceMul, Nat.reduceLT, Nat.reduceBEq, Nat.reduceLeDiff, Nat.reduceSub, List.size_toArray]
  refine ITri.seq ?_
  refine ITri.seq ?_
  refine ITri.reg pokT ?_; simp -implicitDefEqProofs (disch := first | decide | exact of_eq_true (eq_true rfl) | omega | assumption) only [ ↓vcD, vcE, evs, evP, evB, intsOf, fillC, Value.cells, pt, List.append_nil, List.nil_append, List.cons_append, List.length_cons, List.length_nil, List.filter_nil, List.map_nil, ↓List.getElem?_cons_zero, ↓List.getElem?_cons_succ, List.getElem?_cons_zero, List.getElem?_cons_succ, List.set_cons_zero, List.set_cons_succ, Option.join_some, Option.join_none, Option.map_some, List.all_cons, List.all_nil, Value.oneCell', reduceIte, reduceCtorEq, Nat.reduceEqDiff, Nat.reduceAdd, Nat.reduceMul, Nat.reduceLT, Nat.reduceBEq, Nat.reduceLeDiff, Nat.reduceSub, List.size_toArray]
  refine ⟨_, _, checkTurn_f n l tol hn (sees0 rfl (of_decide_eq_true rfl)) (Rd.hq rfl rfl), ?_⟩
  try simp -implicitDefEqProofs (disch := first | decide | exact of_eq_true (eq_true rfl) | omega | assumption) only [ ↓vcD, vcE, evs, evP, evB, intsOf, fillC, Value.cells, pt, List.append_nil, List.nil_append, List.cons_append, List.length_cons, List.length_nil, List.filter_nil, List.map_nil, ↓List.getElem?_cons_zero, ↓List.getElem?_cons_succ, List.getElem?_cons_zero, List.getElem?_cons_succ, List.set_cons_zero, List.set_cons_succ, Option.join_some, Option.join_none, Option.map_some, List.all_cons, List.all_nil, Value.oneCell', reduceIte, reduceCtorEq, Nat.reduceEqDiff, Nat.reduceAdd, Nat.reduceMul, Nat.reduceLT, Nat.reduceBEq, Nat.reduceLeDiff, Nat.reduceSub, List.size_toArray]
  refine ITri.seq ?_
  by_cases g : ckT l tol = 0
  rotate_left
  · refine ITri.reg pokT ?_; simp -implicitDefEqProofs (disch := first | decide | exact of_eq_true (eq_true rfl) | omega | assumption) only [g, decide_false,  ↓vcD, vcE, evs, evP, evB, intsOf, fillC, Value.cells, pt, List.append_nil, List.nil_append, List.cons_append, List.length_cons, List.length_nil, List.filter_nil, List.map_nil, ↓List.getElem?_cons_zero, ↓List.getElem?_cons_succ, List.getElem?_cons_zero, List.getElem?_cons_succ, List.set_cons_zero, List.set_cons_succ, Option.join_some, Option.join_none, Option.map_some, List.all_cons, List.all_nil, Value.oneCell', reduceIte, reduceCtorEq, Nat.reduceEqDiff, Nat.reduceAdd, Nat.reduceMul, Nat.reduceLT, Nat.reduceBEq, Nat.reduceLeDiff, Nat.reduceSub, List.size_toArray]
    refine ITri.cond (v := true) rfl (fun _ => ?_) (fun h => by cases h)
    refine ITri.seq ?_
    refine ITri.reg pokT ?_; simp -implicitDefEqProofs (disch := first | decide | exact of_eq_true (eq_true rfl) | omega | assumption) only [ ↓vcD, vcE, evs, evP, evB, intsOf, fillC, Value.cells, pt, List.append_nil, List.nil_append, List.cons_append, List.length_cons, List.length_nil, List.filter_nil, List.map_nil, ↓List.getElem?_cons_zero, ↓List.getElem?_cons_succ, List.getElem?_cons_zero, List.getElem?_cons_succ, List.set_cons_zero, List.set_cons_succ, Option.join_some, Option.join_none, Option.map_some, List.all_cons, List.all_nil, Value.oneCell', reduceIte, reduceCtorEq, Nat.reduceEqDiff, Nat.reduceAdd, Nat.reduceMul, Nat.reduceLT, Nat.reduceBEq, Nat.reduceLeDiff, Nat.reduceSub, List.size_toArray]
    refine ITri.ret ?_; exact EndR.plain (vs := [.agg ⟨[.int .i64 0, .int .i64 0]⟩, .int .i64 (ckT l tol)]) (by simp) (resF_agg 2 rfl (by kernel_rfl) (by simp -implicitDefEqProofs (disch := first | decide | exact of_eq_true (eq_true rfl) | omega | assumption) only [↓vcD, vcE, evs, evP, evB, intsOf, fillC, Value.cells, pt, List.append_nil, List.nil_append, List.cons_append, List.length_cons, List.length_nil, List.filter_nil, List.map_nil, ↓List.getElem?_cons_zero, ↓List.getElem?_cons_succ, List.getElem?_cons_zero, List.getElem?_cons_succ, List.set_cons_zero, List.set_cons_succ, Option.join_some, Option.join_none, Option.map_some, List.all_cons, List.all_nil, Value.oneCell', reduceIte, reduceCtorEq, Nat.reduceEqDiff, Nat.reduceAdd, Nat.reduceMul, Nat.reduceLT, Nat.reduceBEq, Nat.reduceLeDiff, Nat.reduceSub, List.size_toArray]) (resF_tmp rfl resF_nil)) (by unfold turnF; rw [if_neg g]; rfl) (by rfl)
  obtain ⟨b1, b2, b3, b4, b5⟩ := ck_ok g
  refine ITri.reg pokT ?_; simp -implicitDefEqProofs (disch := first | decide | exact of_eq_true (eq_true rfl) | omega | assumption) only [g, decide_true,  ↓vcD, vcE, evs, evP, evB, intsOf, fillC, Value.cells, pt, List.append_nil, List.nil_append, List.cons_append, List.length_cons, List.length_nil, List.filter_nil, List.map_nil, ↓List.getElem?_cons_zero, ↓List.getElem?_cons_succ, List.getElem?_cons_zero, List.getElem?_cons_succ, List.set_cons_zero, List.set_cons_succ, Option.join_some, Option.join_none, Option.map_some, List.all_cons, List.all_nil, Value.oneCell', reduceIte, reduceCtorEq, Nat.reduceEqDiff, Nat.reduceAdd, Nat.reduceMul, Nat.reduceLT, Nat.reduceBEq, Nat.reduceLeDiff, Nat.reduceSub, List.size_toArray]
  refine ITri.cond (v := false) rfl (fun h => by cases h) (fun _ => ?_); refine ITri.skip ?_; simp only [SeqQ_normal, BlkQ_normal]
  refine ITri.seq ?_
  refine ITri.reg pokT ?_; simp -implicitDefEqProofs (disch := first | decide | exact of_eq_true (eq_true rfl) | omega | assumption) only [ ↓vcD, vcE, evs, evP, evB, intsOf, fillC, Value.cells, pt, List.append_nil, List.nil_append, List.cons_append, List.length_cons, List.length_nil, List.filter_nil, List.map_nil, ↓List.getElem?_cons_zero, ↓List.getElem?_cons_succ, List.getElem?_cons_zero, List.getElem?_cons_succ, List.set_cons_zero, List.set_cons_succ, Option.join_some, Option.join_none, Option.map_some, List.all_cons, List.all_nil, Value.oneCell', reduceIte, reduceCtorEq, Nat.reduceEqDiff, Nat.reduceAdd, Nat.reduceMul, Nat.reduceLT, Nat.reduceBEq, Nat.reduceLeDiff, Nat.reduceSub, List.size_toArray]
  refine ⟨_, _, numbers_f n (by omega) (by omega) (sees0 rfl (of_decide_eq_true rfl)), ?_⟩
  try simp -implicitDefEqProofs (disch := first | decide | exact of_eq_true (eq_true rfl) | omega | assumption) only [ ↓vcD, vcE, evs, evP, evB, intsOf, fillC, Value.cells, pt, List.append_nil, List.nil_append, List.cons_append, List.length_cons, List.length_nil, List.filter_nil, List.map_nil, ↓List.getElem?_cons_zero, ↓List.getElem?_cons_succ, List.getElem?_cons_zero, List.getElem?_cons_succ, List.set_cons_zero, List.set_cons_succ, Option.join_some, Option.join_none, Option.map_some, List.all_cons, List.all_nil, Value.oneCell', reduceIte, reduceCtorEq, Nat.reduceEqDiff, Nat.reduceAdd, Nat.reduceMul, Nat.reduceLT, Nat.reduceBEq, Nat.reduceLeDiff, Nat.reduceSub, List.size_toArray]
  refine ⟨_, _, suit_f n l tol n 3 (upN 0 n) hn (upN_len n 0) (by omega) (by omega) (fun j hj => by have := upN_mem.1 hj; omega) (fun i hi => b3 i (by omega)) b4 b5 (sees0 rfl (of_decide_eq_true rfl)) (Rd.hq rfl rfl) (rdAt_H rfl), ?_⟩
  subst hn
  try simp -implicitDefEqProofs (disch := first | decide | exact of_eq_true (eq_true rfl) | omega | assumption) only [ ↓vcD, vcE, evs, evP, evB, intsOf, fillC, Value.cells, pt, List.append_nil, List.nil_append, List.cons_append, List.length_cons, List.length_nil, List.filter_nil, List.map_nil, ↓List.getElem?_cons_zero, ↓List.getElem?_cons_succ, List.getElem?_cons_zero, List.getElem?_cons_succ, List.set_cons_zero, List.set_cons_succ, Option.join_some, Option.join_none, Option.map_some, List.all_cons, List.all_nil, Value.oneCell', reduceIte, reduceCtorEq, Nat.reduceEqDiff, Nat.reduceAdd, Nat.reduceMul, Nat.reduceLT, Nat.reduceBEq, Nat.reduceLeDiff, Nat.reduceSub, List.size_toArray]
  refine ITri.seq ?_
  refine ITri.seq ?_
  cases g2 : (firstF (sqL l tol (upN 0 l.length))).2.2 with
  | false =>
    refine ITri.reg pokT ?_; simp -implicitDefEqProofs (disch := first | decide | exact of_eq_true (eq_true rfl) | omega | assumption) only [g2,  ↓vcD, vcE, evs, evP, evB, intsOf, fillC, Value.cells, pt, List.append_nil, List.nil_append, List.cons_append, List.length_cons, List.length_nil, List.filter_nil, List.map_nil, ↓List.getElem?_cons_zero, ↓List.getElem?_cons_succ, List.getElem?_cons_zero, List.getElem?_cons_succ, List.set_cons_zero, List.set_cons_succ, Option.join_some, Option.join_none, Option.map_some, List.all_cons, List.all_nil, Value.oneCell', reduceIte, reduceCtorEq, Nat.reduceEqDiff, Nat.reduceAdd, Nat.reduceMul, Nat.reduceLT, Nat.reduceBEq, Nat.reduceLeDiff, Nat.reduceSub, List.size_toArray]
    refine ITri.cond (v := true) rfl (fun _ => ?_) (fun h => by cases h)
    refine ITri.seq ?_
    refine ITri.reg pokT ?_; simp -implicitDefEqProofs (disch := first | decide | exact of_eq_true (eq_true rfl) | omega | assumption) only [ ↓vcD, vcE, evs, evP, evB, intsOf, fillC, Value.cells, pt, List.append_nil, List.nil_append, List.cons_append, List.length_cons, List.length_nil, List.filter_nil, List.map_nil, ↓List.getElem?_cons_zero, ↓List.getElem?_cons_succ, List.getElem?_cons_zero, List.getElem?_cons_succ, List.set_cons_zero, List.set_cons_succ, Option.join_some, Option.join_none, Option.map_some, List.all_cons, List.all_nil, Value.oneCell', reduceIte, reduceCtorEq, Nat.reduceEqDiff, Nat.reduceAdd, Nat.reduceMul, Nat.reduceLT, Nat.reduceBEq, Nat.reduceLeDiff, Nat.reduceSub, List.size_toArray]
    refine ITri.ret ?_; exact EndR.plain (vs := [.agg ⟨[.int .i64 0, .int .i64 0]⟩, .int .i64 72]) (by simp) (resF_agg 2 rfl (by kernel_rfl) (by simp -implicitDefEqProofs (disch := first | decide | exact of_eq_true (eq_true rfl) | omega | assumption) only [↓vcD, vcE, evs, evP, evB, intsOf, fillC, Value.cells, pt, List.append_nil, List.nil_append, List.cons_append, List.length_cons, List.length_nil, List.filter_nil, List.map_nil, ↓List.getElem?_cons_zero, ↓List.getElem?_cons_succ, List.getElem?_cons_zero, List.getElem?_cons_succ, List.set_cons_zero, List.set_cons_succ, Option.join_some, Option.join_none, Option.map_some, List.all_cons, List.all_nil, Value.oneCell', reduceIte, reduceCtorEq, Nat.reduceEqDiff, Nat.reduceAdd, Nat.reduceMul, Nat.reduceLT, Nat.reduceBEq, Nat.reduceLeDiff, Nat.reduceSub, List.size_toArray]) (resF_tmp rfl resF_nil)) (by unfold turnF; rw [if_pos g, g2]; rfl) (by rfl)
  | true =>
    refine ITri.reg pokT ?_; simp -implicitDefEqProofs (disch := first | decide | exact of_eq_true (eq_true rfl) | omega | assumption) only [g2,  ↓vcD, vcE, evs, evP, evB, intsOf, fillC, Value.cells, pt, List.append_nil, List.nil_append, List.cons_append, List.length_cons, List.length_nil, List.filter_nil, List.map_nil, ↓List.getElem?_cons_zero, ↓List.getElem?_cons_succ, List.getElem?_cons_zero, List.getElem?_cons_succ, List.set_cons_zero, List.set_cons_succ, Option.join_some, Option.join_none, Option.map_some, List.all_cons, List.all_nil, Value.oneCell', reduceIte, reduceCtorEq, Nat.reduceEqDiff, Nat.reduceAdd, Nat.reduceMul, Nat.reduceLT, Nat.reduceBEq, Nat.reduceLeDiff, Nat.reduceSub, List.size_toArray]
    refine ITri.cond (v := false) rfl (fun h => by cases h) (fun _ => ?_); refine ITri.skip ?_; simp only [SeqQ_normal, BlkQ_normal]
    refine ITri.seq ?_
    refine ITri.reg pokT ?_; simp -implicitDefEqProofs (disch := first | decide | exact of_eq_true (eq_true rfl) | omega | assumption) only [ ↓vcD, vcE, evs, evP, evB, intsOf, fillC, Value.cells, pt, List.append_nil, List.nil_append, List.cons_append, List.length_cons, List.length_nil, List.filter_nil, List.map_nil, ↓List.getElem?_cons_zero, ↓List.getElem?_cons_succ, List.getElem?_cons_zero, List.getElem?_cons_succ, List.set_cons_zero, List.set_cons_succ, Option.join_some, Option.join_none, Option.map_some, List.all_cons, List.all_nil, Value.oneCell', reduceIte, reduceCtorEq, Nat.reduceEqDiff, Nat.reduceAdd, Nat.reduceMul, Nat.reduceLT, Nat.reduceBEq, Nat.reduceLeDiff, Nat.reduceSub, List.size_toArray]
    refine ITri.ret ?_; exact EndR.plain (vs := [.agg ⟨[.int .i64 (firstF (sqL l tol (upN 0 l.length))).1, .int .i64 (firstF (sqL l tol (upN 0 l.length))).2.1]⟩, .int .i64 0]) (by simp) (resF_agg 2 rfl (by kernel_rfl) (by simp -implicitDefEqProofs (disch := first | decide | exact of_eq_true (eq_true rfl) | omega | assumption) only [↓vcD, vcE, evs, evP, evB, intsOf, fillC, Value.cells, pt, List.append_nil, List.nil_append, List.cons_append, List.length_cons, List.length_nil, List.filter_nil, List.map_nil, ↓List.getElem?_cons_zero, ↓List.getElem?_cons_succ, List.getElem?_cons_zero, List.getElem?_cons_succ, List.set_cons_zero, List.set_cons_succ, Option.join_some, Option.join_none, Option.map_some, List.all_cons, List.all_nil, Value.oneCell', reduceIte, reduceCtorEq, Nat.reduceEqDiff, Nat.reduceAdd, Nat.reduceMul, Nat.reduceLT, Nat.reduceBEq, Nat.reduceLeDiff, Nat.reduceSub, List.size_toArray]) (resF_tmp rfl resF_nil)) (by unfold turnF; rw [if_pos g, g2]; rfl) (by rfl)
end Go.Proofs.Ytlkfcbdbieenhaa
