/-
  Chapter 7 by names: contracts of what Proves calls.
-/
import Derived.Test.YtlkfcbdbieenhaaCropN1
import Derived.Test.YtlkfcbdbieenhaaMg
import Derived.Test.YtlkfcbdbieenhaaCropB8
import Derived.Test.YtlkfcbdbieenhaaCropW8
set_option linter.unusedSimpArgs false
set_option linter.unusedVariables false
namespace Go.Proofs.Ytlkfcbdbieenhaa
open Go.RowKit Go.Vm
set_option maxRecDepth 100000
instance flI : FlatE eI 1 := ⟨fun _ => rfl, fun _ => rfl, fun _ => rfl⟩
theorem getI {xs : List Int} {i : Nat} (hi : i < xs.length) : (rows eI xs)[i]? = some (.int .i64 (nth xs i)) := rows_get1 (f := eI) hi

theorem check_f (n : Nat) (l : List St) (k1 k2 k3 : Int) (hn : l.length = n) (hb : n ≤ 1000000) {h : AH} {s : Value} (h0 : h.sees 0 = true) (r : Rd h s n (rows eII l)) :
    Fc Try.prog 24 [s, sawV k1 k2 k3] h (.int .i64 (checkF l (k1, k2, k3))) h := by
  refine Fc.lift1 (mk := fun ss => ss ++ [sawV k1 k2 k3]) (mkv := fun _ => .int .i64 (checkF l (k1, k2, k3))) (os := []) (fun c => ?_) (MkL.app rfl) (MkV.const rfl) (rows_no (f := eII) l) (fun o ho => by cases ho) h0 r
  refine Fc.ofPlain rfl ⟨_, _, Try.func24, rfl⟩ fun w0 φ κ w R ha => ?_
  obtain ⟨A, cap, e1, hs⟩ := Rel.sl (enc := eII) (xs := l) R (k := 1) (n := n) (cp := c) (H1_get _) (by omega) (ha _ (by simp)) hn
  have e2 : Vm.ren φ κ (sawV k1 k2 k3) = sawV k1 k2 k3 := ren_noAddr _ _ _ rfl
  simp only [List.cons_append, List.nil_append, List.map_cons, List.map_nil, e1, e2]
  exact check_any A n cap w.heap.size l k1 k2 k3 w hs (Nat.le_refl _) hb

abbrev bouV (k1 k2 k3 : Int) (s : Value) : Value := .agg #[.int .i64 k1, .int .i64 k2, .int .i64 k3, s]
theorem newBoule_f (n : Nat) (l : List St) (k1 k2 k3 : Int) (hn : l.length = n) (hb : n ≤ 60) (hg : l.any badSt = false) {h : AH} {s : Value} (h0 : h.sees 0 = true) (r : Rd h s n (rows eII l)) :
    Fc Try.prog 48 [s, sawV k1 k2 k3] h (bouV k1 k2 k3 (.slice (some ⟨h.next, 0, none⟩) (wF l).length openB)) (h.new (.cells ⟨rows eI (wF l), 1, true⟩)) := by
  refine Fc.lift1 (mk := fun ss => ss ++ [sawV k1 k2 k3]) (mkv := fun ss => .agg ⟨[.int .i64 k1, .int .i64 k2, .int .i64 k3] ++ ss ++ []⟩) (os := [((wF l).length, rows eI (wF l), 1)]) (fun c => ?_) (MkL.app rfl) (MkV.agg (MkL.mid rfl rfl)) (rows_no (f := eII) l) (fun o ho => by simp at ho; subst ho; exact rows_no (f := eI) _) h0 r
  show Fc _ _ [s1 n c, sawV k1 k2 k3] (H1 (rows eII l)) (bouV k1 k2 k3 (.slice (some ⟨2, 0, none⟩) (wF l).length openB)) (Hp 2 [none, some (.cells ⟨rows eII l, 0, false⟩), some (.cells ⟨rows eI (wF l), 1, true⟩)])
  rw [H1_new]
  refine Fc.ofOwn (h := H1 (rows eII l)) (mk := bouV k1 k2 k3) (e := 3) (sz := 1) (xs := rows eI (wF l)) (rows_no (f := eI) _) (fun _ _ _ => rfl) (fun _ _ _ h => ⟨trivial, trivial, trivial, h, trivial⟩) ⟨_, _, Try.func48, rfl⟩ fun w0 φ κ w R ha => ?_
  obtain ⟨A, cap, e1, hs⟩ := Rel.sl (enc := eII) (xs := l) R (k := 1) (n := n) (cp := c) (H1_get _) (by omega) (ha _ (by simp)) hn
  have e2 : Vm.ren φ κ (sawV k1 k2 k3) = sawV k1 k2 k3 := ren_noAddr _ _ _ rfl
  simp only [List.map_cons, List.map_nil, e1, e2]
  refine (newBoule_any A n cap w.heap.size l k1 k2 k3 w hs (Nat.le_refl _) hb hg).mono ?_
  rintro en w' ⟨A', n', cap', rfl, ho, hbl⟩
  obtain rfl := ho.1
  exact ⟨A', cap', rfl, ho.2, hbl⟩

theorem bounds_f (n : Nat) (l : List St) (k1 k2 k3 : Int) (hn : l.length = n) (hb : n ≤ 1000000) {h : AH} {s : Value} (h0 : h.sees 0 = true) (r : Rd h s n (rows eII l)) :
    Fc Try.prog 33 [s, sawV k1 k2 k3] h (.tuple #[.slice (some ⟨h.next, 0, none⟩) (bndL l k1 k2 k3).length openB, .int .i64 (checkF l (k1, k2, k3))]) (h.new (.cells ⟨rows eI (bndL l k1 k2 k3), 1, true⟩)) := by
  refine Fc.lift1 (mk := fun ss => ss ++ [sawV k1 k2 k3]) (mkv := fun ss => .tuple ⟨ss ++ [.int .i64 (checkF l (k1, k2, k3))]⟩) (os := [((bndL l k1 k2 k3).length, rows eI (bndL l k1 k2 k3), 1)]) (fun c => ?_) (MkL.app rfl) (MkV.tup (MkL.app rfl)) (rows_no (f := eII) l) (fun o ho => by simp at ho; subst ho; exact rows_no (f := eI) _) h0 r
  show Fc _ _ [s1 n c, sawV k1 k2 k3] (H1 (rows eII l)) (.tuple #[.slice (some ⟨2, 0, none⟩) (bndL l k1 k2 k3).length openB, .int .i64 (checkF l (k1, k2, k3))]) (Hp 2 [none, some (.cells ⟨rows eII l, 0, false⟩), some (.cells ⟨rows eI (bndL l k1 k2 k3), 1, true⟩)])
  rw [H1_new]
  refine Fc.ofOwn (h := H1 (rows eII l)) (mk := fun s => .tuple #[s, .int .i64 (checkF l (k1, k2, k3))]) (e := 3) (sz := 1) (xs := rows eI (bndL l k1 k2 k3)) (rows_no (f := eI) _) (fun _ _ _ => rfl) (fun _ _ _ h => ⟨h, trivial, trivial⟩) ⟨_, _, Try.func33, rfl⟩ fun w0 φ κ w R ha => ?_
  obtain ⟨A, cap, e1, hs⟩ := Rel.sl (enc := eII) (xs := l) R (k := 1) (n := n) (cp := c) (H1_get _) (by omega) (ha _ (by simp)) hn
  have e2 : Vm.ren φ κ (sawV k1 k2 k3) = sawV k1 k2 k3 := ren_noAddr _ _ _ rfl
  simp only [List.map_cons, List.map_nil, e1, e2]
  refine (bounds_any A n cap w.heap.size l k1 k2 k3 w hs (Nat.le_refl _) hb).mono ?_
  rintro en w' ⟨A', n', cap', rfl, ho, _, hbl⟩
  obtain rfl := ho.1
  exact ⟨A', cap', rfl, ho.2, hbl⟩

/- boule/crop.within · slots 15 · names 0:n 1:least 2:most 3:n 4:least 5:most · results [6] -/
def ir57_r0 : IC := .reg [⟨some 6, none, false, .mv (.k (.bool false))⟩] (some [0, 1, 2])
def ir57_r1 : IC := .reg [⟨some 7, none, false, .mv (.t 0)⟩,
  ⟨some 8, none, false, .mv (.t 1)⟩,
  ⟨some 9, none, false, .cmp .geq (.t 7) (.t 8)⟩,
  ⟨some 10, none, false, .mv (.t 9)⟩,
  ⟨some 11, some (10, true), false, .mv (.t 0)⟩,
  ⟨some 12, some (10, true), false, .mv (.t 2)⟩,
  ⟨some 13, some (10, true), false, .cmp .leq (.t 11) (.t 12)⟩,
  ⟨some 14, none, false, .pick (.t 10) (.t 13) (.k (.bool false))⟩,
  ⟨some 6, none, false, .mv (.t 14)⟩] (some [6])
def ir57_1 : IC := .seq ir57_r1 .ret
def ir57_2 : IC := .seq ir57_r0 ir57_1
def ir57 : IC := ir57_2
theorem fn57 : FnIs Try.prog 57 ir57 15 [.tmp 6] := ⟨Try.f57, Try.f57.body.getD .skip, Try.func57, by kernel_rfl, by kernel_rfl, by kernel_rfl, by kernel_rfl⟩
/- (boule/crop.boule).behind · slots 15 · names 0:b 1:x 2:b 3:x · results [4] -/
def ir50_r0 : IC := .reg [⟨some 2, none, false, .box (.t 0)⟩,
  ⟨some 3, none, false, .box (.t 1)⟩,
  ⟨some 4, none, false, .mv (.k (.int .i64 0))⟩] (some [2, 3])
def ir50_r1 : IC := .reg [⟨some 5, none, false, .fad 1 (.t 3)⟩,
  ⟨some 6, none, false, .ldc (.t 5)⟩,
  ⟨some 7, none, false, .fad 0 (.t 2)⟩,
  ⟨some 8, none, false, .fad 2 (.t 7)⟩,
  ⟨some 9, none, false, .ldc (.t 8)⟩,
  ⟨some 10, none, false, .ar .add (.t 6) (.t 9)⟩,
  ⟨some 11, none, false, .fad 3 (.t 2)⟩,
  ⟨some 12, none, false, .ldc (.t 11)⟩,
  ⟨some 13, none, false, .len (.t 12)⟩,
  ⟨some 14, none, false, .mm true [(.t 10), (.t 13)]⟩,
  ⟨some 4, none, false, .mv (.t 14)⟩] (some [4])
def ir50_1 : IC := .seq ir50_r1 .ret
def ir50_2 : IC := .seq ir50_r0 ir50_1
def ir50 : IC := ir50_2
theorem fn50 : FnIs Try.prog 50 ir50 15 [.tmp 4] := ⟨Try.f50, Try.f50.body.getD .skip, Try.func50, by kernel_rfl, by kernel_rfl, by kernel_rfl, by kernel_rfl⟩
/- boule/crop.Proves$1 · slots 6 · names 0:n 1:n · results [2] -/
def ir64_r0 : IC := .reg [⟨some 2, none, false, .mv (.k (.bool false))⟩] (some [0])
def ir64_r1 : IC := .reg [⟨some 3, none, false, .mv (.t 0)⟩,
  ⟨some 4, none, false, .call (.f 57) [(.t 3), (.k (.int .i64 0)), (.k (.int .i64 1000000000000000))]⟩,
  ⟨some 5, none, false, .not (.t 4)⟩,
  ⟨some 2, none, false, .mv (.t 5)⟩] (some [2])
def ir64_1 : IC := .seq ir64_r1 .ret
def ir64_2 : IC := .seq ir64_r0 ir64_1
def ir64 : IC := ir64_2
theorem fn64 : FnIs Try.prog 64 ir64 6 [.tmp 2] := ⟨Try.f64, Try.f64.body.getD .skip, Try.func64, by kernel_rfl, by kernel_rfl, by kernel_rfl, by kernel_rfl⟩
/- slices.IndexFunc[[]int,int] · slots 19 · names 0:s 1:f 2:s 3:f 5:i · results [4] -/
def ir82_r0 : IC := .reg [⟨some 4, none, false, .mv (.k (.int .i64 0))⟩] (some [0, 1])
def ir82_r1 : IC := .reg [⟨some 6, none, false, .mv (.t 0)⟩,
  ⟨some 7, none, false, .len (.t 6)⟩,
  ⟨some 8, none, false, .mv (.k (.int .i64 0))⟩] (some [0, 1, 7, 8])
def ir82_r2 : IC := .reg [⟨some 9, none, false, .cmp .lss (.t 8) (.t 7)⟩] (some [0, 1, 7, 8, 9])
def ir82_1 : IC := .cond (.t 9) .skip (.exit 0)
def ir82_r3 : IC := .reg [⟨some 10, none, false, .mv (.t 8)⟩,
  ⟨some 5, none, false, .mv (.t 10)⟩] (some [0, 1, 5, 7, 8])
def ir82_r4 : IC := .reg [⟨some 11, none, false, .mv (.t 1)⟩,
  ⟨some 12, none, false, .mv (.t 0)⟩,
  ⟨some 13, none, false, .mv (.t 5)⟩,
  ⟨some 14, none, false, .iad 1 (.t 12) (.t 13)⟩,
  ⟨some 15, none, false, .ldc (.t 14)⟩,
  ⟨some 16, none, false, .call (.t 11) [(.t 15)]⟩] (some [0, 1, 5, 7, 8, 16])
def ir82_r5 : IC := .reg [⟨some 17, none, false, .mv (.t 5)⟩,
  ⟨some 4, none, false, .mv (.t 17)⟩] (some [4])
def ir82_2 : IC := .seq ir82_r5 .ret
def ir82_3 : IC := .cond (.t 16) ir82_2 .skip
def ir82_4 : IC := .seq ir82_r4 ir82_3
def ir82_5 : IC := .seq ir82_r3 ir82_4
def ir82_6 : IC := .block 1 ir82_5
def ir82_r6 : IC := .reg [⟨some 18, none, false, .ar .add (.t 8) (.k (.int .i64 1))⟩,
  ⟨some 8, none, false, .mv (.t 18)⟩] (some [0, 1, 7, 8])
def ir82_7 : IC := .seq ir82_6 ir82_r6
def ir82_8 : IC := .seq ir82_1 ir82_7
def ir82_9 : IC := .seq ir82_r2 ir82_8
def ir82_10 : IC := .loop ir82_9
def ir82_11 : IC := .block 0 ir82_10
def ir82_12 : IC := .seq ir82_r1 ir82_11
def ir82_r7 : IC := .reg [⟨some 4, none, false, .mv (.k (.int .i64 (-1)))⟩] (some [4])
def ir82_13 : IC := .seq ir82_r7 .ret
def ir82_14 : IC := .seq ir82_12 ir82_13
def ir82_15 : IC := .seq ir82_r0 ir82_14
def ir82 : IC := ir82_15
theorem fn82 : FnIs Try.prog 82 ir82 19 [.tmp 4] := ⟨Try.f82, Try.f82.body.getD .skip, Try.func82, by kernel_rfl, by kernel_rfl, by kernel_rfl, by kernel_rfl⟩
/- slices.ContainsFunc[[]int,int] · slots 9 · names 0:s 1:f 2:s 3:f · results [4] -/
def ir65_r0 : IC := .reg [⟨some 4, none, false, .mv (.k (.bool false))⟩] (some [0, 1])
def ir65_r1 : IC := .reg [⟨some 5, none, false, .mv (.t 0)⟩,
  ⟨some 6, none, false, .mv (.t 1)⟩,
  ⟨some 7, none, false, .call (.f 82) [(.t 5), (.t 6)]⟩,
  ⟨some 8, none, false, .cmp .geq (.t 7) (.k (.int .i64 0))⟩,
  ⟨some 4, none, false, .mv (.t 8)⟩] (some [4])
def ir65_1 : IC := .seq ir65_r1 .ret
def ir65_2 : IC := .seq ir65_r0 ir65_1
def ir65 : IC := ir65_2
theorem fn65 : FnIs Try.prog 65 ir65 9 [.tmp 4] := ⟨Try.f65, Try.f65.body.getD .skip, Try.func65, by kernel_rfl, by kernel_rfl, by kernel_rfl, by kernel_rfl⟩
/- (boule/crop.boule).blocks · slots 6 · names 0:b 1:from 2:b 3:from · results [4] -/
def ir66_r0 : IC := .reg [⟨some 2, none, false, .box (.t 0)⟩,
  ⟨some 3, none, false, .box (.t 1)⟩,
  ⟨some 4, none, false, .mv (.k .nilFunc)⟩] (some [2, 3])
def ir66_r1 : IC := .reg [⟨some 5, none, false, .mkf 83 [] [(.t 3), (.t 2)]⟩,
  ⟨some 4, none, false, .mv (.t 5)⟩] (some [4])
def ir66_1 : IC := .seq ir66_r1 .ret
def ir66_2 : IC := .seq ir66_r0 ir66_1
def ir66 : IC := ir66_2
theorem fn66 : FnIs Try.prog 66 ir66 6 [.tmp 4] := ⟨Try.f66, Try.f66.body.getD .skip, Try.func66, by kernel_rfl, by kernel_rfl, by kernel_rfl, by kernel_rfl⟩
theorem within_f (n a b : Int) {h : AH} (h0 : h.sees 0 = true) : Fc Try.prog 57 [.int .i64 n, .int .i64 a, .int .i64 b] h (.bool (decide (a ≤ n ∧ n ≤ b))) h := by
  refine Fc.lift0 ?_ rfl rfl h0
  refine Fc.intro0 (h := Hp 1 [none]) fn57 (by simp) rfl rfl ?_; simp only [argF]
  refine ITri.seq ?_
  refine ITri.reg pok ?_; simp -implicitDefEqProofs (disch := first | decide | exact of_eq_true (eq_true rfl) | omega | assumption) only [ ↓vcD, vcE, evs, evP, evB, intsOf, fillC, Value.cells, pt, List.append_nil, List.nil_append, List.cons_append, List.length_cons, List.length_nil, List.filter_nil, List.map_nil, ↓List.getElem?_cons_zero, ↓List.getElem?_cons_succ, List.getElem?_cons_zero, List.getElem?_cons_succ, List.set_cons_zero, List.set_cons_succ, Option.join_some, Option.join_none, Option.map_some, List.all_cons, List.all_nil, Value.oneCell', reduceIte, reduceCtorEq, Nat.reduceEqDiff, Nat.reduceAdd, Nat.reduceMul, Nat.reduceLT, Nat.reduceBEq, Nat.reduceLeDiff, Nat.reduceSub, List.size_toArray] -- r0 crop.go:12
  refine ITri.seq ?_
  by_cases h1 : a ≤ n
  · refine ITri.reg pok ?_; simp -implicitDefEqProofs (disch := first | decide | exact of_eq_true (eq_true rfl) | omega | assumption) only [h1, decide_true,  ↓vcD, vcE, evs, evP, evB, intsOf, fillC, Value.cells, pt, List.append_nil, List.nil_append, List.cons_append, List.length_cons, List.length_nil, List.filter_nil, List.map_nil, ↓List.getElem?_cons_zero, ↓List.getElem?_cons_succ, List.getElem?_cons_zero, List.getElem?_cons_succ, List.set_cons_zero, List.set_cons_succ, Option.join_some, Option.join_none, Option.map_some, List.all_cons, List.all_nil, Value.oneCell', reduceIte, reduceCtorEq, Nat.reduceEqDiff, Nat.reduceAdd, Nat.reduceMul, Nat.reduceLT, Nat.reduceBEq, Nat.reduceLeDiff, Nat.reduceSub, List.size_toArray] -- r1 crop.go:12 GUARDS [10] live [6]
    refine ITri.ret ?_; exact EndR.plain (by simp) (by rfl) (by simp [packV, h1]) (by rfl)
  · refine ITri.reg pok ?_; simp -implicitDefEqProofs (disch := first | decide | exact of_eq_true (eq_true rfl) | omega | assumption) only [h1, decide_false,  ↓vcD, vcE, evs, evP, evB, intsOf, fillC, Value.cells, pt, List.append_nil, List.nil_append, List.cons_append, List.length_cons, List.length_nil, List.filter_nil, List.map_nil, ↓List.getElem?_cons_zero, ↓List.getElem?_cons_succ, List.getElem?_cons_zero, List.getElem?_cons_succ, List.set_cons_zero, List.set_cons_succ, Option.join_some, Option.join_none, Option.map_some, List.all_cons, List.all_nil, Value.oneCell', reduceIte, reduceCtorEq, Nat.reduceEqDiff, Nat.reduceAdd, Nat.reduceMul, Nat.reduceLT, Nat.reduceBEq, Nat.reduceLeDiff, Nat.reduceSub, List.size_toArray] -- r1 crop.go:12 GUARDS [10] live [6]
    refine ITri.ret ?_; exact EndR.plain (by simp) (by rfl) (by simp [packV, h1]) (by rfl)

theorem behind_f (k1 k2 k3 x1 x2 : Int) (n : Nat) (cs : List Value) (hno : noAddrL cs = true) (h1 : 0 ≤ x2 ∧ x2 ≤ 1000000 ∧ 0 ≤ k3 ∧ k3 ≤ 1000000) {h : AH} {s : Value} (h0 : h.sees 0 = true) (r : Rd h s n cs) :
    Fc Try.prog 50 [bouV k1 k2 k3 s, .agg #[.int .i64 x1, .int .i64 x2]] h (.int .i64 (min (x2 + k3) n)) h := by
  refine Fc.lift1 (mk := fun ss => .agg ⟨[.int .i64 k1, .int .i64 k2, .int .i64 k3] ++ ss ++ []⟩ :: [.agg #[.int .i64 x1, .int .i64 x2]]) (mkv := fun _ => .int .i64 (min (x2 + k3) n)) (os := []) (fun c => ?_) (MkL.agg1 (MkL.mid rfl rfl) rfl) (MkV.const rfl) hno (fun o ho => by cases ho) h0 r
  refine Fc.intro0 (h := Hp 2 [none, some (.cells ⟨cs, 0, false⟩)]) fn50 (by simp) rfl rfl ?_; simp only [argF, List.cons_append, List.nil_append]
  refine ITri.seq ?_
  refine ITri.reg pok ?_; simp -implicitDefEqProofs (disch := first | decide | exact of_eq_true (eq_true rfl) | omega | assumption) only [ ↓vcD, vcE, evs, evP, evB, intsOf, fillC, Value.cells, pt, List.append_nil, List.nil_append, List.cons_append, List.length_cons, List.length_nil, List.filter_nil, List.map_nil, ↓List.getElem?_cons_zero, ↓List.getElem?_cons_succ, List.getElem?_cons_zero, List.getElem?_cons_succ, List.set_cons_zero, List.set_cons_succ, Option.join_some, Option.join_none, Option.map_some, List.all_cons, List.all_nil, Value.oneCell', reduceIte, reduceCtorEq, Nat.reduceEqDiff, Nat.reduceAdd, Nat.reduceMul, Nat.reduceLT, Nat.reduceBEq, Nat.reduceLeDiff, Nat.reduceSub, List.size_toArray] -- r0
  refine ITri.seq ?_
  refine ITri.reg pok ?_; simp -implicitDefEqProofs (disch := first | decide | exact of_eq_true (eq_true rfl) | omega | assumption) only [ ↓vcD, vcE, evs, evP, evB, intsOf, fillC, Value.cells, pt, List.append_nil, List.nil_append, List.cons_append, List.length_cons, List.length_nil, List.filter_nil, List.map_nil, ↓List.getElem?_cons_zero, ↓List.getElem?_cons_succ, List.getElem?_cons_zero, List.getElem?_cons_succ, List.set_cons_zero, List.set_cons_succ, Option.join_some, Option.join_none, Option.map_some, List.all_cons, List.all_nil, Value.oneCell', reduceIte, reduceCtorEq, Nat.reduceEqDiff, Nat.reduceAdd, Nat.reduceMul, Nat.reduceLT, Nat.reduceBEq, Nat.reduceLeDiff, Nat.reduceSub, List.size_toArray] -- r1
  refine ITri.ret ?_; exact EndR.plain (by simp) (by rfl) (by rfl) (by rfl)

theorem wrong_f (x : Int) {h : AH} (h0 : h.sees 0 = true) : Fc Try.prog 64 [.int .i64 x] h (.bool (decide ¬(0 ≤ x ∧ x ≤ 1000000000000000))) h := by
  refine Fc.lift0 ?_ rfl rfl h0
  refine Fc.intro0 (h := Hp 1 [none]) fn64 (by simp) rfl rfl ?_; simp only [argF]
  refine ITri.seq ?_
  refine ITri.reg pok ?_; simp -implicitDefEqProofs (disch := first | decide | exact of_eq_true (eq_true rfl) | omega | assumption) only [ ↓vcD, vcE, evs, evP, evB, intsOf, fillC, Value.cells, pt, List.append_nil, List.nil_append, List.cons_append, List.length_cons, List.length_nil, List.filter_nil, List.map_nil, ↓List.getElem?_cons_zero, ↓List.getElem?_cons_succ, List.getElem?_cons_zero, List.getElem?_cons_succ, List.set_cons_zero, List.set_cons_succ, Option.join_some, Option.join_none, Option.map_some, List.all_cons, List.all_nil, Value.oneCell', reduceIte, reduceCtorEq, Nat.reduceEqDiff, Nat.reduceAdd, Nat.reduceMul, Nat.reduceLT, Nat.reduceBEq, Nat.reduceLeDiff, Nat.reduceSub, List.size_toArray]
  refine ITri.seq ?_
  refine ITri.reg pok ?_; simp -implicitDefEqProofs (disch := first | decide | exact of_eq_true (eq_true rfl) | omega | assumption) only [ ↓vcD, vcE, evs, evP, evB, intsOf, fillC, Value.cells, pt, List.append_nil, List.nil_append, List.cons_append, List.length_cons, List.length_nil, List.filter_nil, List.map_nil, ↓List.getElem?_cons_zero, ↓List.getElem?_cons_succ, List.getElem?_cons_zero, List.getElem?_cons_succ, List.set_cons_zero, List.set_cons_succ, Option.join_some, Option.join_none, Option.map_some, List.all_cons, List.all_nil, Value.oneCell', reduceIte, reduceCtorEq, Nat.reduceEqDiff, Nat.reduceAdd, Nat.reduceMul, Nat.reduceLT, Nat.reduceBEq, Nat.reduceLeDiff, Nat.reduceSub, List.size_toArray]
  refine ⟨_, _, within_f x 0 1000000000000000 (sees0 rfl (of_decide_eq_true rfl)), ?_⟩
  try simp -implicitDefEqProofs (disch := first | decide | exact of_eq_true (eq_true rfl) | omega | assumption) only [ ↓vcD, vcE, evs, evP, evB, intsOf, fillC, Value.cells, pt, List.append_nil, List.nil_append, List.cons_append, List.length_cons, List.length_nil, List.filter_nil, List.map_nil, ↓List.getElem?_cons_zero, ↓List.getElem?_cons_succ, List.getElem?_cons_zero, List.getElem?_cons_succ, List.set_cons_zero, List.set_cons_succ, Option.join_some, Option.join_none, Option.map_some, List.all_cons, List.all_nil, Value.oneCell', reduceIte, reduceCtorEq, Nat.reduceEqDiff, Nat.reduceAdd, Nat.reduceMul, Nat.reduceLT, Nat.reduceBEq, Nat.reduceLeDiff, Nat.reduceSub, List.size_toArray]
  refine ITri.ret ?_; exact EndR.plain (by simp) (by rfl) (by simp only [packV, decide_not]) (by rfl)
end Go.Proofs.Ytlkfcbdbieenhaa
