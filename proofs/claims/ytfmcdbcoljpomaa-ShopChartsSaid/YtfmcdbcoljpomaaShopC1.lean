/-
  Chapter 11, by names: equal lists; touches, and what the reference says of them.
-/
import Derived.Test.YtfmcdbcoljpomaaShopA1
set_option linter.unusedSimpArgs false
set_option linter.unusedVariables false
namespace Go.Proofs.Ytfmcdbcoljpomaa
open Go.RowKit Go.Vm
set_option maxRecDepth 100000
/- boule/boulelaw11.sameInts · slots 26 · names 0:a 1:b 2:a 3:b 5:i · results [4] -/
def ir17_r0 : IC := .reg [⟨some 4, none, false, .mv (.k (.bool false))⟩] (some [0, 1])
def ir17_r1 : IC := .reg [⟨some 6, none, false, .mv (.t 0)⟩,
  ⟨some 7, none, false, .len (.t 6)⟩,
  ⟨some 8, none, false, .mv (.t 1)⟩,
  ⟨some 9, none, false, .len (.t 8)⟩,
  ⟨some 10, none, false, .cmp .neq (.t 7) (.t 9)⟩] (some [0, 1, 10])
def ir17_r2 : IC := .reg [⟨some 4, none, false, .mv (.k (.bool false))⟩] (some [4])
def ir17_1 : IC := .seq ir17_r2 .ret
def ir17_2 : IC := .cond (.t 10) ir17_1 .skip
def ir17_3 : IC := .seq ir17_r1 ir17_2
def ir17_r3 : IC := .reg [⟨some 5, none, false, .mv (.k (.int .i64 0))⟩] (some [0, 1, 5])
def ir17_r4 : IC := .reg [⟨some 11, none, false, .mv (.t 5)⟩,
  ⟨some 12, none, false, .mv (.t 0)⟩,
  ⟨some 13, none, false, .len (.t 12)⟩,
  ⟨some 14, none, false, .cmp .lss (.t 11) (.t 13)⟩] (some [0, 1, 5, 14])
def ir17_4 : IC := .cond (.t 14) .skip (.exit 0)
def ir17_5 : IC := .seq ir17_r4 ir17_4
def ir17_r6 : IC := .draw [(⟨some 17, none, false, .mv (.t 0)⟩, false, 0, 0),
  (⟨some 18, none, false, .mv (.t 5)⟩, false, 0, 0),
  (⟨some 19, none, false, .iad 1 (.t 17) (.t 18)⟩, false, 3, 0),
  (⟨some 20, none, false, .ldc (.t 19)⟩, false, 7, 1),
  (⟨some 21, none, false, .mv (.t 1)⟩, false, 0, 0),
  (⟨some 22, none, false, .mv (.t 5)⟩, false, 0, 0),
  (⟨some 23, none, false, .iad 1 (.t 21) (.t 22)⟩, false, 48, 0),
  (⟨some 24, none, false, .ldc (.t 23)⟩, false, 112, 8),
  (⟨some 25, none, false, .cmp .neq (.t 20) (.t 24)⟩, false, 255, 0)] (some [0, 1, 5, 25])
def ir17_r7 : IC := .reg [⟨some 4, none, false, .mv (.k (.bool false))⟩] (some [4])
def ir17_6 : IC := .seq ir17_r7 .ret
def ir17_7 : IC := .cond (.t 25) ir17_6 .skip
def ir17_8 : IC := .seq ir17_r6 ir17_7
def ir17_9 : IC := .block 1 ir17_8
def ir17_r5 : IC := .reg [⟨some 15, none, false, .mv (.t 5)⟩,
  ⟨some 16, none, false, .ar .add (.t 15) (.k (.int .i64 1))⟩,
  ⟨some 5, none, false, .mv (.t 16)⟩] (some [0, 1, 5])
def ir17_10 : IC := .seq ir17_9 ir17_r5
def ir17_11 : IC := .seq ir17_5 ir17_10
def ir17_12 : IC := .loop ir17_11
def ir17_13 : IC := .block 0 ir17_12
def ir17_14 : IC := .seq ir17_r3 ir17_13
def ir17_r8 : IC := .reg [⟨some 4, none, false, .mv (.k (.bool true))⟩] (some [4])
def ir17_15 : IC := .seq ir17_r8 .ret
def ir17_16 : IC := .seq ir17_14 ir17_15
def ir17_17 : IC := .seq ir17_3 ir17_16
def ir17_18 : IC := .seq ir17_r0 ir17_17
def ir17 : IC := ir17_18
theorem fn17 : FnIs Try.prog 17 ir17 26 [.tmp 4] := ⟨Try.f17, Try.f17.body.getD .skip, Try.func17, by kernel_rfl, by kernel_rfl, by kernel_rfl, by kernel_rfl⟩
/- boule/bouleref11.Touches · slots 73 · names 0:l 1:lots 2:tools 3:bad 4:since 5:l 6:lots 7:tools 8:bad 9:since 11:last 12:i · results [10] -/
def ir61_r0 : IC := .reg [⟨some 10, none, false, .mv (.k (.int .i64 0))⟩] (some [0, 1, 2, 3, 4])
def ir61_r1 : IC := .reg [⟨some 13, none, false, .mv (.t 0)⟩,
  ⟨some 14, none, false, .len (.t 13)⟩,
  ⟨some 15, none, false, .cmp .gtr (.t 14) (.k (.int .i64 500))⟩] (some [0, 1, 2, 3, 4, 15])
def ir61_r2 : IC := .reg [⟨some 10, none, false, .mv (.k (.int .i64 5))⟩] (some [10])
def ir61_1 : IC := .seq ir61_r2 .ret
def ir61_2 : IC := .cond (.t 15) ir61_1 .skip
def ir61_3 : IC := .seq ir61_r1 ir61_2
def ir61_r3 : IC := .reg [⟨some 16, none, false, .mv (.t 1)⟩,
  ⟨some 17, none, false, .call (.f 48) [(.t 16), (.k (.int .i64 0)), (.k (.int .i64 100))]⟩,
  ⟨some 18, none, false, .not (.t 17)⟩,
  ⟨some 19, none, false, .mv (.t 18)⟩,
  ⟨some 20, some (19, false), false, .mv (.t 2)⟩,
  ⟨some 21, some (19, false), false, .call (.f 48) [(.t 20), (.k (.int .i64 0)), (.k (.int .i64 100))]⟩,
  ⟨some 22, some (19, false), false, .not (.t 21)⟩,
  ⟨some 23, none, false, .pick (.t 19) (.k (.bool true)) (.t 22)⟩,
  ⟨some 24, none, false, .mv (.t 23)⟩,
  ⟨some 25, some (24, false), false, .mv (.t 4)⟩,
  ⟨some 26, some (24, false), false, .call (.f 48) [(.t 25), (.k (.int .i64 0)), (.k (.int .i64 100000000))]⟩,
  ⟨some 27, some (24, false), false, .not (.t 26)⟩,
  ⟨some 28, none, false, .pick (.t 24) (.k (.bool true)) (.t 27)⟩] (some [0, 1, 2, 3, 28])
def ir61_r4 : IC := .reg [⟨some 10, none, false, .mv (.k (.int .i64 3))⟩] (some [10])
def ir61_4 : IC := .seq ir61_r4 .ret
def ir61_5 : IC := .cond (.t 28) ir61_4 .skip
def ir61_6 : IC := .seq ir61_r3 ir61_5
def ir61_r5 : IC := .reg [⟨some 29, none, false, .mv (.t 3)⟩,
  ⟨some 30, none, false, .mv (.t 2)⟩,
  ⟨some 31, none, false, .ar .sub (.t 30) (.k (.int .i64 1))⟩,
  ⟨some 32, none, false, .call (.f 48) [(.t 29), (.k (.int .i64 0)), (.t 31)]⟩,
  ⟨some 33, none, false, .not (.t 32)⟩] (some [0, 1, 2, 33])
def ir61_r6 : IC := .reg [⟨some 10, none, false, .mv (.k (.int .i64 7))⟩] (some [10])
def ir61_7 : IC := .seq ir61_r6 .ret
def ir61_8 : IC := .cond (.t 33) ir61_7 .skip
def ir61_9 : IC := .seq ir61_r5 ir61_8
def ir61_r7 : IC := .reg [⟨some 11, none, false, .mv (.k (.int .i64 0))⟩] (some [0, 1, 2, 11])
def ir61_r8 : IC := .reg [⟨some 12, none, false, .mv (.k (.int .i64 0))⟩] (some [0, 1, 2, 11, 12])
def ir61_r9 : IC := .reg [⟨some 34, none, false, .mv (.t 12)⟩,
  ⟨some 35, none, false, .mv (.t 0)⟩,
  ⟨some 36, none, false, .len (.t 35)⟩,
  ⟨some 37, none, false, .cmp .lss (.t 34) (.t 36)⟩] (some [0, 1, 2, 11, 12, 37])
def ir61_10 : IC := .cond (.t 37) .skip (.exit 0)
def ir61_11 : IC := .seq ir61_r9 ir61_10
def ir61_r11 : IC := .reg [⟨some 40, none, false, .mv (.t 0)⟩,
  ⟨some 41, none, false, .mv (.t 12)⟩,
  ⟨some 42, none, false, .iad 3 (.t 40) (.t 41)⟩,
  ⟨some 43, none, false, .fad 0 (.t 42)⟩,
  ⟨some 44, none, false, .ldc (.t 43)⟩,
  ⟨some 45, none, false, .mv (.t 11)⟩,
  ⟨some 46, none, false, .call (.f 48) [(.t 44), (.t 45), (.k (.int .i64 100000000))]⟩,
  ⟨some 47, none, false, .not (.t 46)⟩] (some [0, 1, 2, 12, 47])
def ir61_r12 : IC := .reg [⟨some 10, none, false, .mv (.k (.int .i64 3))⟩] (some [10])
def ir61_12 : IC := .seq ir61_r12 .ret
def ir61_13 : IC := .cond (.t 47) ir61_12 .skip
def ir61_14 : IC := .seq ir61_r11 ir61_13
def ir61_r13 : IC := .reg [⟨some 48, none, false, .mv (.t 0)⟩,
  ⟨some 49, none, false, .mv (.t 12)⟩,
  ⟨some 50, none, false, .iad 3 (.t 48) (.t 49)⟩,
  ⟨some 51, none, false, .fad 1 (.t 50)⟩,
  ⟨some 52, none, false, .ldc (.t 51)⟩,
  ⟨some 53, none, false, .mv (.t 1)⟩,
  ⟨some 54, none, false, .ar .sub (.t 53) (.k (.int .i64 1))⟩,
  ⟨some 55, none, false, .call (.f 48) [(.t 52), (.k (.int .i64 (-1))), (.t 54)]⟩,
  ⟨some 56, none, false, .not (.t 55)⟩,
  ⟨some 57, none, false, .mv (.t 56)⟩,
  ⟨some 58, some (57, false), false, .mv (.t 0)⟩,
  ⟨some 59, some (57, false), false, .mv (.t 12)⟩,
  ⟨some 60, some (57, false), false, .iad 3 (.t 58) (.t 59)⟩,
  ⟨some 61, some (57, false), false, .fad 2 (.t 60)⟩,
  ⟨some 62, some (57, false), false, .ldc (.t 61)⟩,
  ⟨some 63, some (57, false), false, .mv (.t 2)⟩,
  ⟨some 64, some (57, false), false, .ar .sub (.t 63) (.k (.int .i64 1))⟩,
  ⟨some 65, some (57, false), false, .call (.f 48) [(.t 62), (.k (.int .i64 0)), (.t 64)]⟩,
  ⟨some 66, some (57, false), false, .not (.t 65)⟩,
  ⟨some 67, none, false, .pick (.t 57) (.k (.bool true)) (.t 66)⟩] (some [0, 1, 2, 12, 67])
def ir61_r14 : IC := .reg [⟨some 10, none, false, .mv (.k (.int .i64 7))⟩] (some [10])
def ir61_15 : IC := .seq ir61_r14 .ret
def ir61_16 : IC := .cond (.t 67) ir61_15 .skip
def ir61_17 : IC := .seq ir61_r13 ir61_16
def ir61_r15 : IC := .reg [⟨some 68, none, false, .mv (.t 0)⟩,
  ⟨some 69, none, false, .mv (.t 12)⟩,
  ⟨some 70, none, false, .iad 3 (.t 68) (.t 69)⟩,
  ⟨some 71, none, false, .fad 0 (.t 70)⟩,
  ⟨some 72, none, false, .ldc (.t 71)⟩,
  ⟨some 11, none, false, .mv (.t 72)⟩] (some [0, 1, 2, 11, 12])
def ir61_18 : IC := .seq ir61_17 ir61_r15
def ir61_19 : IC := .seq ir61_14 ir61_18
def ir61_20 : IC := .block 1 ir61_19
def ir61_r10 : IC := .reg [⟨some 38, none, false, .mv (.t 12)⟩,
  ⟨some 39, none, false, .ar .add (.t 38) (.k (.int .i64 1))⟩,
  ⟨some 12, none, false, .mv (.t 39)⟩] (some [0, 1, 2, 11, 12])
def ir61_21 : IC := .seq ir61_20 ir61_r10
def ir61_22 : IC := .seq ir61_11 ir61_21
def ir61_23 : IC := .loop ir61_22
def ir61_24 : IC := .block 0 ir61_23
def ir61_25 : IC := .seq ir61_r8 ir61_24
def ir61_r16 : IC := .reg [⟨some 10, none, false, .mv (.k (.int .i64 0))⟩] (some [10])
def ir61_26 : IC := .seq ir61_r16 .ret
def ir61_27 : IC := .seq ir61_25 ir61_26
def ir61_28 : IC := .seq ir61_r7 ir61_27
def ir61_29 : IC := .seq ir61_9 ir61_28
def ir61_30 : IC := .seq ir61_6 ir61_29
def ir61_31 : IC := .seq ir61_3 ir61_30
def ir61_32 : IC := .seq ir61_r0 ir61_31
def ir61 : IC := ir61_32
theorem fn61 : FnIs Try.prog 61 ir61 73 [.tmp 10] := ⟨Try.f61, Try.f61.body.getD .skip, Try.func61, by kernel_rfl, by kernel_rfl, by kernel_rfl, by kernel_rfl⟩
/-- Equal lists are the same. -/
theorem same_c (n c d : Nat) (xs : List Int) (hx : xs.length = n) (hb : n ≤ 1000000) :
    Fc Try.prog 17 [.slice (some ⟨1, 0, none⟩) n c, .slice (some ⟨2, 0, none⟩) n d] (Hp 3 [none, some (.cells ⟨rows eN xs, 0, false⟩), some (.cells ⟨rows eN xs, 0, false⟩)]) (.bool true) (Hp 3 [none, some (.cells ⟨rows eN xs, 0, false⟩), some (.cells ⟨rows eN xs, 0, false⟩)]) := by
  refine Fc.intro0 fn17 (by simp) rfl rfl ?_; simp only [argF]
  refine ITri.seq ?_
  refine ITri.reg pokT ?_; simp -implicitDefEqProofs (disch := first | decide | exact of_eq_true (eq_true rfl) | omega | assumption) only [ ↓vcD, vcE, evs, evP, evB, intsOf, fillC, Value.cells, pt, List.append_nil, List.nil_append, List.cons_append, List.length_cons, List.length_nil, List.filter_nil, List.map_nil, ↓List.getElem?_cons_zero, ↓List.getElem?_cons_succ, List.getElem?_cons_zero, List.getElem?_cons_succ, List.set_cons_zero, List.set_cons_succ, Option.join_some, Option.join_none, Option.map_some, List.all_cons, List.all_nil, Value.oneCell', reduceIte, reduceCtorEq, Nat.reduceEqDiff, Nat.reduceAdd, Nat.reduceMul, Nat.reduceLT, Nat.reduceBEq, Nat.reduceLeDiff, Nat.reduceSub, List.size_toArray] -- r0
  refine ITri.seq ?_
  refine ITri.seq ?_
  refine ITri.reg pokT ?_; simp -implicitDefEqProofs (disch := first | decide | exact of_eq_true (eq_true rfl) | omega | assumption) only [eq_self, not_true_eq_false, decide_false, decide_true, Bool.not_true,  ↓vcD, vcE, evs, evP, evB, intsOf, fillC, Value.cells, pt, List.append_nil, List.nil_append, List.cons_append, List.length_cons, List.length_nil, List.filter_nil, List.map_nil, ↓List.getElem?_cons_zero, ↓List.getElem?_cons_succ, List.getElem?_cons_zero, List.getElem?_cons_succ, List.set_cons_zero, List.set_cons_succ, Option.join_some, Option.join_none, Option.map_some, List.all_cons, List.all_nil, Value.oneCell', reduceIte, reduceCtorEq, Nat.reduceEqDiff, Nat.reduceAdd, Nat.reduceMul, Nat.reduceLT, Nat.reduceBEq, Nat.reduceLeDiff, Nat.reduceSub, List.size_toArray] -- r1
  refine ITri.cond (v := false) rfl (fun h => by cases h) (fun _ => ?_); refine ITri.skip ?_; simp only [SeqQ_normal, BlkQ_normal]
  refine ITri.seq ?_
  refine ITri.seq ?_
  refine ITri.reg pokT ?_; simp -implicitDefEqProofs (disch := first | decide | exact of_eq_true (eq_true rfl) | omega | assumption) only [ ↓vcD, vcE, evs, evP, evB, intsOf, fillC, Value.cells, pt, List.append_nil, List.nil_append, List.cons_append, List.length_cons, List.length_nil, List.filter_nil, List.map_nil, ↓List.getElem?_cons_zero, ↓List.getElem?_cons_succ, List.getElem?_cons_zero, List.getElem?_cons_succ, List.set_cons_zero, List.set_cons_succ, Option.join_some, Option.join_none, Option.map_some, List.all_cons, List.all_nil, Value.oneCell', reduceIte, reduceCtorEq, Nat.reduceEqDiff, Nat.reduceAdd, Nat.reduceMul, Nat.reduceLT, Nat.reduceBEq, Nat.reduceLeDiff, Nat.reduceSub, List.size_toArray] -- r3
  refine ITri.block ?_ -- 0
  refine ITri.loop (fun k : Nat => [(0, .slice (some ⟨1, 0, none⟩) n c), (1, .slice (some ⟨2, 0, none⟩) n d), (5, .int .i64 k)]) (fun _ => []) (fun k => Hp 3 [none, some (.cells ⟨rows eN xs, 0, false⟩), some (.cells ⟨rows eN xs, 0, false⟩)]) (fun k => k ≤ n) (fun k => n - k) 0 (Nat.zero_le _) (Wk.sub ⟨rfl, rfl, rfl, trivial⟩) fun k hk => ?_
  refine ITri.seq ?_
  refine ITri.seq ?_
  refine ITri.reg pokT ?_; simp -implicitDefEqProofs (disch := first | decide | exact of_eq_true (eq_true rfl) | omega | assumption) only [ ↓vcD, vcE, evs, evP, evB, intsOf, fillC, Value.cells, pt, List.append_nil, List.nil_append, List.cons_append, List.length_cons, List.length_nil, List.filter_nil, List.map_nil, ↓List.getElem?_cons_zero, ↓List.getElem?_cons_succ, List.getElem?_cons_zero, List.getElem?_cons_succ, List.set_cons_zero, List.set_cons_succ, Option.join_some, Option.join_none, Option.map_some, List.all_cons, List.all_nil, Value.oneCell', reduceIte, reduceCtorEq, Nat.reduceEqDiff, Nat.reduceAdd, Nat.reduceMul, Nat.reduceLT, Nat.reduceBEq, Nat.reduceLeDiff, Nat.reduceSub, List.size_toArray] -- r4
  refine ITri.condD (by rfl) (fun h1 => ?_) (fun h1 => ?_) -- %14
  · have hkr : k < xs.length := by omega
    have hg : (rows eN xs)[k]? = some (.int .i64 (nth xs k)) := getN hkr
    refine ITri.skip ?_; simp only [SeqQ_normal, BlkQ_normal]
    refine ITri.seq ?_
    refine ITri.block ?_ -- 1
    refine ITri.seq ?_
    refine ITri.draw pokT ?_; simp -implicitDefEqProofs (disch := first | decide | exact of_eq_true (eq_true rfl) | omega | assumption) only [hg, eq_self, not_true_eq_false, decide_false, decide_true, Bool.not_true,  ↓vcD, vcE, evs, evP, evB, intsOf, fillC, Value.cells, pt, List.append_nil, List.nil_append, List.cons_append, List.length_cons, List.length_nil, List.filter_nil, List.map_nil, ↓List.getElem?_cons_zero, ↓List.getElem?_cons_succ, List.getElem?_cons_zero, List.getElem?_cons_succ, List.set_cons_zero, List.set_cons_succ, Option.join_some, Option.join_none, Option.map_some, List.all_cons, List.all_nil, Value.oneCell', reduceIte, reduceCtorEq, Nat.reduceEqDiff, Nat.reduceAdd, Nat.reduceMul, Nat.reduceLT, Nat.reduceBEq, Nat.reduceLeDiff, Nat.reduceSub, List.size_toArray] -- r6
    refine ITri.cond (v := false) rfl (fun h => by cases h) (fun _ => ?_); refine ITri.skip ?_; simp only [SeqQ_normal, BlkQ_normal]
    refine ITri.reg pokT ?_; simp -implicitDefEqProofs (disch := first | decide | exact of_eq_true (eq_true rfl) | omega | assumption) only [ ↓vcD, vcE, evs, evP, evB, intsOf, fillC, Value.cells, pt, List.append_nil, List.nil_append, List.cons_append, List.length_cons, List.length_nil, List.filter_nil, List.map_nil, ↓List.getElem?_cons_zero, ↓List.getElem?_cons_succ, List.getElem?_cons_zero, List.getElem?_cons_succ, List.set_cons_zero, List.set_cons_succ, Option.join_some, Option.join_none, Option.map_some, List.all_cons, List.all_nil, Value.oneCell', reduceIte, reduceCtorEq, Nat.reduceEqDiff, Nat.reduceAdd, Nat.reduceMul, Nat.reduceLT, Nat.reduceBEq, Nat.reduceLeDiff, Nat.reduceSub, List.size_toArray] -- r5
    exact LoopQ.next (k + 1) (by omega) (by omega) (Wk.sub ⟨rfl, rfl, rfl, trivial⟩)
  refine ITri.exit ?_; try simp -implicitDefEqProofs (disch := first | decide | exact of_eq_true (eq_true rfl) | omega | assumption) only [ ↓vcD, vcE, evs, evP, evB, intsOf, fillC, Value.cells, pt, List.append_nil, List.nil_append, List.cons_append, List.length_cons, List.length_nil, List.filter_nil, List.map_nil, ↓List.getElem?_cons_zero, ↓List.getElem?_cons_succ, List.getElem?_cons_zero, List.getElem?_cons_succ, List.set_cons_zero, List.set_cons_succ, Option.join_some, Option.join_none, Option.map_some, List.all_cons, List.all_nil, Value.oneCell', reduceIte, reduceCtorEq, Nat.reduceEqDiff, Nat.reduceAdd, Nat.reduceMul, Nat.reduceLT, Nat.reduceBEq, Nat.reduceLeDiff, Nat.reduceSub, List.size_toArray]
  refine ITri.seq ?_
  refine ITri.reg pokT ?_; simp -implicitDefEqProofs (disch := first | decide | exact of_eq_true (eq_true rfl) | omega | assumption) only [ ↓vcD, vcE, evs, evP, evB, intsOf, fillC, Value.cells, pt, List.append_nil, List.nil_append, List.cons_append, List.length_cons, List.length_nil, List.filter_nil, List.map_nil, ↓List.getElem?_cons_zero, ↓List.getElem?_cons_succ, List.getElem?_cons_zero, List.getElem?_cons_succ, List.set_cons_zero, List.set_cons_succ, Option.join_some, Option.join_none, Option.map_some, List.all_cons, List.all_nil, Value.oneCell', reduceIte, reduceCtorEq, Nat.reduceEqDiff, Nat.reduceAdd, Nat.reduceMul, Nat.reduceLT, Nat.reduceBEq, Nat.reduceLeDiff, Nat.reduceSub, List.size_toArray] -- r8
  refine ITri.ret ?_; exact EndR.plain (by simp) (by rfl) (by rfl) (by rfl)
theorem same_f {n : Nat} {xs : List Int} (hx : xs.length = n) (hb : n ≤ 1000000) {h : AH} {s t : Value} (h0 : h.sees 0 = true) (r : Rd h s n (rows eN xs)) (r2 : Rd h t n (rows eN xs)) :
    Fc Try.prog 17 [s, t] h (.bool true) h :=
  Fc.lift2 (mk := fun ss => [] ++ ss ++ []) (mkv := fun _ => .bool true) (os := []) (fun c d => same_c n c d xs hx hb) (MkL.mid rfl rfl) (MkV.const rfl) (rows_no (f := eN) xs) (rows_no (f := eN) xs) (fun o ho => by cases ho) h0 r r2
/-- A touch: when, which lot, in which tool. -/
abbrev Tc := Int × Int × Int
def eC (t : Tc) : List Value := [.int .i64 t.1, .int .i64 t.2.1, .int .i64 t.2.2]
instance flC : FlatE eC 3 := ⟨fun _ => rfl, fun _ => rfl, fun _ => rfl⟩
def tcS (lots tools : Int) : List Tc → Int → Int
  | [], _ => 0
  | x :: r, last => if inT x.1 last 100000000 = false then 3 else if inT x.2.1 (-1) (lots - 1) = false ∨ inT x.2.2 0 (tools - 1) = false then 7 else tcS lots tools r x.1
def tcE (l : List Tc) (lots tools bad since : Int) : Int :=
  if 500 < l.length then 5 else if inT lots 0 100 = false ∨ inT tools 0 100 = false ∨ inT since 0 100000000 = false then 3 else if inT bad 0 (tools - 1) = false then 7 else tcS lots tools l 0
theorem drop_nth {α : Type} [Inhabited α] {l : List α} {k : Nat} (h : k < l.length) : l.drop k = nth l k :: l.drop (k + 1) := by
  rw [← (List.getElem?_eq_some_iff.1 (get_nth h)).2]
  exact List.drop_eq_getElem_cons h
theorem touches_c (n c : Nat) (l : List Tc) (lots tools bad since : Int) (hl : l.length = n) (hb : n ≤ 1000000) :
    Fc Try.prog 61 [.slice (some ⟨1, 0, none⟩) n c, .int .i64 lots, .int .i64 tools, .int .i64 bad, .int .i64 since] (Hp 2 [none, some (.cells ⟨rows eC l, 0, false⟩)]) (.int .i64 (tcE l lots tools bad since)) (Hp 2 [none, some (.cells ⟨rows eC l, 0, false⟩)]) := by
  refine Fc.intro0 fn61 (by simp) rfl rfl ?_; simp only [argF]
  refine ITri.seq ?_
  refine ITri.reg pokT ?_; simp -implicitDefEqProofs (disch := first | decide | exact of_eq_true (eq_true rfl) | omega | assumption) only [ ↓vcD, vcE, evs, evP, evB, intsOf, fillC, Value.cells, pt, List.append_nil, List.nil_append, List.cons_append, List.length_cons, List.length_nil, List.filter_nil, List.map_nil, ↓List.getElem?_cons_zero, ↓List.getElem?_cons_succ, List.getElem?_cons_zero, List.getElem?_cons_succ, List.set_cons_zero, List.set_cons_succ, Option.join_some, Option.join_none, Option.map_some, List.all_cons, List.all_nil, Value.oneCell', reduceIte, reduceCtorEq, Nat.reduceEqDiff, Nat.reduceAdd, Nat.reduceMul, Nat.reduceLT, Nat.reduceBEq, Nat.reduceLeDiff, Nat.reduceSub, List.size_toArray] -- r0
  refine ITri.seq ?_
  refine ITri.seq ?_
  refine ITri.reg pokT ?_; simp -implicitDefEqProofs (disch := first | decide | exact of_eq_true (eq_true rfl) | omega | assumption) only [ ↓vcD, vcE, evs, evP, evB, intsOf, fillC, Value.cells, pt, List.append_nil, List.nil_append, List.cons_append, List.length_cons, List.length_nil, List.filter_nil, List.map_nil, ↓List.getElem?_cons_zero, ↓List.getElem?_cons_succ, List.getElem?_cons_zero, List.getElem?_cons_succ, List.set_cons_zero, List.set_cons_succ, Option.join_some, Option.join_none, Option.map_some, List.all_cons, List.all_nil, Value.oneCell', reduceIte, reduceCtorEq, Nat.reduceEqDiff, Nat.reduceAdd, Nat.reduceMul, Nat.reduceLT, Nat.reduceBEq, Nat.reduceLeDiff, Nat.reduceSub, List.size_toArray] -- r1
  refine ITri.condD (by rfl) (fun h1 => ?_) (fun h1 => ?_) -- %15
  · have e0 : tcE l lots tools bad since = 5 := if_pos (by omega)
    rw [e0]
    refine ITri.seq ?_
    refine ITri.reg pokT ?_; simp -implicitDefEqProofs (disch := first | decide | exact of_eq_true (eq_true rfl) | omega | assumption) only [ ↓vcD, vcE, evs, evP, evB, intsOf, fillC, Value.cells, pt, List.append_nil, List.nil_append, List.cons_append, List.length_cons, List.length_nil, List.filter_nil, List.map_nil, ↓List.getElem?_cons_zero, ↓List.getElem?_cons_succ, List.getElem?_cons_zero, List.getElem?_cons_succ, List.set_cons_zero, List.set_cons_succ, Option.join_some, Option.join_none, Option.map_some, List.all_cons, List.all_nil, Value.oneCell', reduceIte, reduceCtorEq, Nat.reduceEqDiff, Nat.reduceAdd, Nat.reduceMul, Nat.reduceLT, Nat.reduceBEq, Nat.reduceLeDiff, Nat.reduceSub, List.size_toArray] -- r2
    refine ITri.ret ?_; exact EndR.plain (by simp) (by rfl) (by rfl) (by rfl)
  have f1 : tcE l lots tools bad since = _ := if_neg (show ¬ 500 < l.length by omega)
  refine ITri.skip ?_; simp only [SeqQ_normal, BlkQ_normal]
  refine ITri.seq ?_
  refine ITri.seq ?_
  refine ITri.one (P := Try.prog) [(0, .slice (some ⟨1, 0, none⟩) n c), (1, .int .i64 lots), (2, .int .i64 tools), (3, .int .i64 bad), (28, .bool (!(inT lots 0 100 && inT tools 0 100 && inT since 0 100000000)))] ?_ ?_
  · refine ITri.reg pokT ?_; simp -implicitDefEqProofs (disch := first | decide | exact of_eq_true (eq_true rfl) | omega | assumption) only [ ↓vcD, vcE, evs, evP, evB, intsOf, fillC, Value.cells, pt, List.append_nil, List.nil_append, List.cons_append, List.length_cons, List.length_nil, List.filter_nil, List.map_nil, ↓List.getElem?_cons_zero, ↓List.getElem?_cons_succ, List.getElem?_cons_zero, List.getElem?_cons_succ, List.set_cons_zero, List.set_cons_succ, Option.join_some, Option.join_none, Option.map_some, List.all_cons, List.all_nil, Value.oneCell', reduceIte, reduceCtorEq, Nat.reduceEqDiff, Nat.reduceAdd, Nat.reduceMul, Nat.reduceLT, Nat.reduceBEq, Nat.reduceLeDiff, Nat.reduceSub, List.size_toArray] -- r3
    refine ⟨_, _, within_f _ _ _ (sees0 rfl (of_decide_eq_true rfl)), ?_⟩
    cases g1 : inT lots 0 100 with
    | false => simp -implicitDefEqProofs (disch := first | decide | exact of_eq_true (eq_true rfl) | omega | assumption) only [g1, Bool.false_and, Bool.not_false,  ↓vcD, vcE, evs, evP, evB, intsOf, fillC, Value.cells, pt, List.append_nil, List.nil_append, List.cons_append, List.length_cons, List.length_nil, List.filter_nil, List.map_nil, ↓List.getElem?_cons_zero, ↓List.getElem?_cons_succ, List.getElem?_cons_zero, List.getElem?_cons_succ, List.set_cons_zero, List.set_cons_succ, Option.join_some, Option.join_none, Option.map_some, List.all_cons, List.all_nil, Value.oneCell', reduceIte, reduceCtorEq, Nat.reduceEqDiff, Nat.reduceAdd, Nat.reduceMul, Nat.reduceLT, Nat.reduceBEq, Nat.reduceLeDiff, Nat.reduceSub, List.size_toArray]
    | true =>
    simp -implicitDefEqProofs (disch := first | decide | exact of_eq_true (eq_true rfl) | omega | assumption) only [g1,  ↓vcD, vcE, evs, evP, evB, intsOf, fillC, Value.cells, pt, List.append_nil, List.nil_append, List.cons_append, List.length_cons, List.length_nil, List.filter_nil, List.map_nil, ↓List.getElem?_cons_zero, ↓List.getElem?_cons_succ, List.getElem?_cons_zero, List.getElem?_cons_succ, List.set_cons_zero, List.set_cons_succ, Option.join_some, Option.join_none, Option.map_some, List.all_cons, List.all_nil, Value.oneCell', reduceIte, reduceCtorEq, Nat.reduceEqDiff, Nat.reduceAdd, Nat.reduceMul, Nat.reduceLT, Nat.reduceBEq, Nat.reduceLeDiff, Nat.reduceSub, List.size_toArray]
    refine ⟨_, _, within_f _ _ _ (sees0 rfl (of_decide_eq_true rfl)), ?_⟩
    cases g2 : inT tools 0 100 with
    | false => simp -implicitDefEqProofs (disch := first | decide | exact of_eq_true (eq_true rfl) | omega | assumption) only [g2, Bool.false_and, Bool.true_and, Bool.not_false,  ↓vcD, vcE, evs, evP, evB, intsOf, fillC, Value.cells, pt, List.append_nil, List.nil_append, List.cons_append, List.length_cons, List.length_nil, List.filter_nil, List.map_nil, ↓List.getElem?_cons_zero, ↓List.getElem?_cons_succ, List.getElem?_cons_zero, List.getElem?_cons_succ, List.set_cons_zero, List.set_cons_succ, Option.join_some, Option.join_none, Option.map_some, List.all_cons, List.all_nil, Value.oneCell', reduceIte, reduceCtorEq, Nat.reduceEqDiff, Nat.reduceAdd, Nat.reduceMul, Nat.reduceLT, Nat.reduceBEq, Nat.reduceLeDiff, Nat.reduceSub, List.size_toArray]
    | true =>
    simp -implicitDefEqProofs (disch := first | decide | exact of_eq_true (eq_true rfl) | omega | assumption) only [g2,  ↓vcD, vcE, evs, evP, evB, intsOf, fillC, Value.cells, pt, List.append_nil, List.nil_append, List.cons_append, List.length_cons, List.length_nil, List.filter_nil, List.map_nil, ↓List.getElem?_cons_zero, ↓List.getElem?_cons_succ, List.getElem?_cons_zero, List.getElem?_cons_succ, List.set_cons_zero, List.set_cons_succ, Option.join_some, Option.join_none, Option.map_some, List.all_cons, List.all_nil, Value.oneCell', reduceIte, reduceCtorEq, Nat.reduceEqDiff, Nat.reduceAdd, Nat.reduceMul, Nat.reduceLT, Nat.reduceBEq, Nat.reduceLeDiff, Nat.reduceSub, List.size_toArray]
    refine ⟨_, _, within_f _ _ _ (sees0 rfl (of_decide_eq_true rfl)), ?_⟩
    simp -implicitDefEqProofs (disch := first | decide | exact of_eq_true (eq_true rfl) | omega | assumption) only [g2, Bool.true_and,  ↓vcD, vcE, evs, evP, evB, intsOf, fillC, Value.cells, pt, List.append_nil, List.nil_append, List.cons_append, List.length_cons, List.length_nil, List.filter_nil, List.map_nil, ↓List.getElem?_cons_zero, ↓List.getElem?_cons_succ, List.getElem?_cons_zero, List.getElem?_cons_succ, List.set_cons_zero, List.set_cons_succ, Option.join_some, Option.join_none, Option.map_some, List.all_cons, List.all_nil, Value.oneCell', reduceIte, reduceCtorEq, Nat.reduceEqDiff, Nat.reduceAdd, Nat.reduceMul, Nat.reduceLT, Nat.reduceBEq, Nat.reduceLeDiff, Nat.reduceSub, List.size_toArray]
  cases g0 : (inT lots 0 100 && inT tools 0 100 && inT since 0 100000000) with
  | false =>
    have e0 : tcE l lots tools bad since = 3 := by
      rw [f1, if_pos]
      simp only [Bool.and_eq_false_iff] at g0
      rcases g0 with (g | g) | g
      · exact .inl g
      · exact .inr (.inl g)
      · exact .inr (.inr g)
    rw [e0]
    refine ITri.cond (v := true) rfl (fun _ => ?_) (fun h => by cases h)
    refine ITri.seq ?_
    refine ITri.reg pokT ?_; simp -implicitDefEqProofs (disch := first | decide | exact of_eq_true (eq_true rfl) | omega | assumption) only [ ↓vcD, vcE, evs, evP, evB, intsOf, fillC, Value.cells, pt, List.append_nil, List.nil_append, List.cons_append, List.length_cons, List.length_nil, List.filter_nil, List.map_nil, ↓List.getElem?_cons_zero, ↓List.getElem?_cons_succ, List.getElem?_cons_zero, List.getElem?_cons_succ, List.set_cons_zero, List.set_cons_succ, Option.join_some, Option.join_none, Option.map_some, List.all_cons, List.all_nil, Value.oneCell', reduceIte, reduceCtorEq, Nat.reduceEqDiff, Nat.reduceAdd, Nat.reduceMul, Nat.reduceLT, Nat.reduceBEq, Nat.reduceLeDiff, Nat.reduceSub, List.size_toArray] -- r4
    refine ITri.ret ?_; exact EndR.plain (by simp) (by rfl) (by rfl) (by rfl)
  | true =>
  simp only [Bool.and_eq_true] at g0
  rw [if_neg (by rw [g0.1.1, g0.1.2, g0.2]; simp)] at f1
  have b1 := inT_ok g0.1.1
  have b2 := inT_ok g0.1.2
  refine ITri.cond (v := false) rfl (fun h => by cases h) (fun _ => ?_); refine ITri.skip ?_; simp only [SeqQ_normal, BlkQ_normal]
  refine ITri.seq ?_
  refine ITri.seq ?_
  refine ITri.reg pokT ?_; simp -implicitDefEqProofs (disch := first | decide | exact of_eq_true (eq_true rfl) | omega | assumption) only [ ↓vcD, vcE, evs, evP, evB, intsOf, fillC, Value.cells, pt, List.append_nil, List.nil_append, List.cons_append, List.length_cons, List.length_nil, List.filter_nil, List.map_nil, ↓List.getElem?_cons_zero, ↓List.getElem?_cons_succ, List.getElem?_cons_zero, List.getElem?_cons_succ, List.set_cons_zero, List.set_cons_succ, Option.join_some, Option.join_none, Option.map_some, List.all_cons, List.all_nil, Value.oneCell', reduceIte, reduceCtorEq, Nat.reduceEqDiff, Nat.reduceAdd, Nat.reduceMul, Nat.reduceLT, Nat.reduceBEq, Nat.reduceLeDiff, Nat.reduceSub, List.size_toArray] -- r5
  refine ⟨_, _, within_f _ _ _ (sees0 rfl (of_decide_eq_true rfl)), ?_⟩
  cases g3 : inT bad 0 (tools - 1) with
  | false =>
    have e0 : tcE l lots tools bad since = 7 := by rw [f1, if_pos g3]
    rw [e0]
    try simp -implicitDefEqProofs (disch := first | decide | exact of_eq_true (eq_true rfl) | omega | assumption) only [ ↓vcD, vcE, evs, evP, evB, intsOf, fillC, Value.cells, pt, List.append_nil, List.nil_append, List.cons_append, List.length_cons, List.length_nil, List.filter_nil, List.map_nil, ↓List.getElem?_cons_zero, ↓List.getElem?_cons_succ, List.getElem?_cons_zero, List.getElem?_cons_succ, List.set_cons_zero, List.set_cons_succ, Option.join_some, Option.join_none, Option.map_some, List.all_cons, List.all_nil, Value.oneCell', reduceIte, reduceCtorEq, Nat.reduceEqDiff, Nat.reduceAdd, Nat.reduceMul, Nat.reduceLT, Nat.reduceBEq, Nat.reduceLeDiff, Nat.reduceSub, List.size_toArray]
    refine ITri.cond (v := true) rfl (fun _ => ?_) (fun h => by cases h)
    refine ITri.seq ?_
    refine ITri.reg pokT ?_; simp -implicitDefEqProofs (disch := first | decide | exact of_eq_true (eq_true rfl) | omega | assumption) only [ ↓vcD, vcE, evs, evP, evB, intsOf, fillC, Value.cells, pt, List.append_nil, List.nil_append, List.cons_append, List.length_cons, List.length_nil, List.filter_nil, List.map_nil, ↓List.getElem?_cons_zero, ↓List.getElem?_cons_succ, List.getElem?_cons_zero, List.getElem?_cons_succ, List.set_cons_zero, List.set_cons_succ, Option.join_some, Option.join_none, Option.map_some, List.all_cons, List.all_nil, Value.oneCell', reduceIte, reduceCtorEq, Nat.reduceEqDiff, Nat.reduceAdd, Nat.reduceMul, Nat.reduceLT, Nat.reduceBEq, Nat.reduceLeDiff, Nat.reduceSub, List.size_toArray] -- r6
    refine ITri.ret ?_; exact EndR.plain (by simp) (by rfl) (by rfl) (by rfl)
  | true =>
  rw [if_neg (by rw [g3]; simp)] at f1
  try simp -implicitDefEqProofs (disch := first | decide | exact of_eq_true (eq_true rfl) | omega | assumption) only [ ↓vcD, vcE, evs, evP, evB, intsOf, fillC, Value.cells, pt, List.append_nil, List.nil_append, List.cons_append, List.length_cons, List.length_nil, List.filter_nil, List.map_nil, ↓List.getElem?_cons_zero, ↓List.getElem?_cons_succ, List.getElem?_cons_zero, List.getElem?_cons_succ, List.set_cons_zero, List.set_cons_succ, Option.join_some, Option.join_none, Option.map_some, List.all_cons, List.all_nil, Value.oneCell', reduceIte, reduceCtorEq, Nat.reduceEqDiff, Nat.reduceAdd, Nat.reduceMul, Nat.reduceLT, Nat.reduceBEq, Nat.reduceLeDiff, Nat.reduceSub, List.size_toArray]
  refine ITri.cond (v := false) rfl (fun h => by cases h) (fun _ => ?_); refine ITri.skip ?_; simp only [SeqQ_normal, BlkQ_normal]
  refine ITri.seq ?_
  refine ITri.reg pokT ?_; simp -implicitDefEqProofs (disch := first | decide | exact of_eq_true (eq_true rfl) | omega | assumption) only [ ↓vcD, vcE, evs, evP, evB, intsOf, fillC, Value.cells, pt, List.append_nil, List.nil_append, List.cons_append, List.length_cons, List.length_nil, List.filter_nil, List.map_nil, ↓List.getElem?_cons_zero, ↓List.getElem?_cons_succ, List.getElem?_cons_zero, List.getElem?_cons_succ, List.set_cons_zero, List.set_cons_succ, Option.join_some, Option.join_none, Option.map_some, List.all_cons, List.all_nil, Value.oneCell', reduceIte, reduceCtorEq, Nat.reduceEqDiff, Nat.reduceAdd, Nat.reduceMul, Nat.reduceLT, Nat.reduceBEq, Nat.reduceLeDiff, Nat.reduceSub, List.size_toArray] -- r7
  refine ITri.seq ?_
  refine ITri.seq ?_
  refine ITri.reg pokT ?_; simp -implicitDefEqProofs (disch := first | decide | exact of_eq_true (eq_true rfl) | omega | assumption) only [ ↓vcD, vcE, evs, evP, evB, intsOf, fillC, Value.cells, pt, List.append_nil, List.nil_append, List.cons_append, List.length_cons, List.length_nil, List.filter_nil, List.map_nil, ↓List.getElem?_cons_zero, ↓List.getElem?_cons_succ, List.getElem?_cons_zero, List.getElem?_cons_succ, List.set_cons_zero, List.set_cons_succ, Option.join_some, Option.join_none, Option.map_some, List.all_cons, List.all_nil, Value.oneCell', reduceIte, reduceCtorEq, Nat.reduceEqDiff, Nat.reduceAdd, Nat.reduceMul, Nat.reduceLT, Nat.reduceBEq, Nat.reduceLeDiff, Nat.reduceSub, List.size_toArray] -- r8
  refine ITri.block ?_ -- 0
  refine ITri.loop (fun p : Nat × Int => [(0, .slice (some ⟨1, 0, none⟩) n c), (1, .int .i64 lots), (2, .int .i64 tools), (11, .int .i64 p.2), (12, .int .i64 p.1)]) (fun _ => []) (fun p => Hp 2 [none, some (.cells ⟨rows eC l, 0, false⟩)]) (fun p => p.1 ≤ n ∧ tcE l lots tools bad since = tcS lots tools (l.drop p.1) p.2) (fun p => n - p.1) (0, 0) ⟨Nat.zero_le _, f1⟩ (Wk.sub ⟨rfl, rfl, rfl, rfl, rfl, trivial⟩) fun p hp => ?_
  obtain ⟨k, last⟩ := p
  obtain ⟨hk, hS⟩ := hp
  simp only at hk hS
  refine ITri.seq ?_
  refine ITri.seq ?_
  refine ITri.reg pokT ?_; simp -implicitDefEqProofs (disch := first | decide | exact of_eq_true (eq_true rfl) | omega | assumption) only [ ↓vcD, vcE, evs, evP, evB, intsOf, fillC, Value.cells, pt, List.append_nil, List.nil_append, List.cons_append, List.length_cons, List.length_nil, List.filter_nil, List.map_nil, ↓List.getElem?_cons_zero, ↓List.getElem?_cons_succ, List.getElem?_cons_zero, List.getElem?_cons_succ, List.set_cons_zero, List.set_cons_succ, Option.join_some, Option.join_none, Option.map_some, List.all_cons, List.all_nil, Value.oneCell', reduceIte, reduceCtorEq, Nat.reduceEqDiff, Nat.reduceAdd, Nat.reduceMul, Nat.reduceLT, Nat.reduceBEq, Nat.reduceLeDiff, Nat.reduceSub, List.size_toArray] -- r9
  refine ITri.condD (by rfl) (fun h2 => ?_) (fun h2 => ?_) -- %37
  · have hkr : k < l.length := by omega
    obtain ⟨⟨at', lot, tool⟩, hab⟩ : ∃ r, nth l k = r := ⟨_, rfl⟩
    have ga : (rows eC l)[k * 3]? = some (.int .i64 at') := by rw [rows_get0 (f := eC) hkr (by omega), hab]; rfl
    have gb : (rows eC l)[k * 3 + 1]? = some (.int .i64 lot) := by rw [rows_get (f := eC) hkr (by omega), hab]; rfl
    have gc : (rows eC l)[k * 3 + 2]? = some (.int .i64 tool) := by rw [rows_get (f := eC) hkr (by omega), hab]; rfl
    rw [drop_nth hkr, hab, tcS] at hS
    refine ITri.skip ?_; simp only [SeqQ_normal, BlkQ_normal]
    refine ITri.seq ?_
    refine ITri.block ?_ -- 1
    refine ITri.seq ?_
    refine ITri.seq ?_
    refine ITri.reg pokT ?_; simp -implicitDefEqProofs (disch := first | decide | exact of_eq_true (eq_true rfl) | omega | assumption) only [ga,  ↓vcD, vcE, evs, evP, evB, intsOf, fillC, Value.cells, pt, List.append_nil, List.nil_append, List.cons_append, List.length_cons, List.length_nil, List.filter_nil, List.map_nil, ↓List.getElem?_cons_zero, ↓List.getElem?_cons_succ, List.getElem?_cons_zero, List.getElem?_cons_succ, List.set_cons_zero, List.set_cons_succ, Option.join_some, Option.join_none, Option.map_some, List.all_cons, List.all_nil, Value.oneCell', reduceIte, reduceCtorEq, Nat.reduceEqDiff, Nat.reduceAdd, Nat.reduceMul, Nat.reduceLT, Nat.reduceBEq, Nat.reduceLeDiff, Nat.reduceSub, List.size_toArray] -- r11
    refine ⟨_, _, within_f _ _ _ (sees0 rfl (of_decide_eq_true rfl)), ?_⟩
    cases g5 : inT at' last 100000000 with
    | false =>
      rw [if_pos g5] at hS
      rw [hS]
      try simp -implicitDefEqProofs (disch := first | decide | exact of_eq_true (eq_true rfl) | omega | assumption) only [ ↓vcD, vcE, evs, evP, evB, intsOf, fillC, Value.cells, pt, List.append_nil, List.nil_append, List.cons_append, List.length_cons, List.length_nil, List.filter_nil, List.map_nil, ↓List.getElem?_cons_zero, ↓List.getElem?_cons_succ, List.getElem?_cons_zero, List.getElem?_cons_succ, List.set_cons_zero, List.set_cons_succ, Option.join_some, Option.join_none, Option.map_some, List.all_cons, List.all_nil, Value.oneCell', reduceIte, reduceCtorEq, Nat.reduceEqDiff, Nat.reduceAdd, Nat.reduceMul, Nat.reduceLT, Nat.reduceBEq, Nat.reduceLeDiff, Nat.reduceSub, List.size_toArray]
      refine ITri.cond (v := true) rfl (fun _ => ?_) (fun h => by cases h)
      refine ITri.seq ?_
      refine ITri.reg pokT ?_; simp -implicitDefEqProofs (disch := first | decide | exact of_eq_true (eq_true rfl) | omega | assumption) only [ ↓vcD, vcE, evs, evP, evB, intsOf, fillC, Value.cells, pt, List.append_nil, List.nil_append, List.cons_append, List.length_cons, List.length_nil, List.filter_nil, List.map_nil, ↓List.getElem?_cons_zero, ↓List.getElem?_cons_succ, List.getElem?_cons_zero, List.getElem?_cons_succ, List.set_cons_zero, List.set_cons_succ, Option.join_some, Option.join_none, Option.map_some, List.all_cons, List.all_nil, Value.oneCell', reduceIte, reduceCtorEq, Nat.reduceEqDiff, Nat.reduceAdd, Nat.reduceMul, Nat.reduceLT, Nat.reduceBEq, Nat.reduceLeDiff, Nat.reduceSub, List.size_toArray] -- r12
      refine ITri.ret ?_; exact EndR.plain (by simp) (by rfl) (by rfl) (by rfl)
    | true =>
    rw [if_neg (by rw [g5]; simp)] at hS
    try simp -implicitDefEqProofs (disch := first | decide | exact of_eq_true (eq_true rfl) | omega | assumption) only [ ↓vcD, vcE, evs, evP, evB, intsOf, fillC, Value.cells, pt, List.append_nil, List.nil_append, List.cons_append, List.length_cons, List.length_nil, List.filter_nil, List.map_nil, ↓List.getElem?_cons_zero, ↓List.getElem?_cons_succ, List.getElem?_cons_zero, List.getElem?_cons_succ, List.set_cons_zero, List.set_cons_succ, Option.join_some, Option.join_none, Option.map_some, List.all_cons, List.all_nil, Value.oneCell', reduceIte, reduceCtorEq, Nat.reduceEqDiff, Nat.reduceAdd, Nat.reduceMul, Nat.reduceLT, Nat.reduceBEq, Nat.reduceLeDiff, Nat.reduceSub, List.size_toArray]
    refine ITri.cond (v := false) rfl (fun h => by cases h) (fun _ => ?_); refine ITri.skip ?_; simp only [SeqQ_normal, BlkQ_normal]
    refine ITri.seq ?_
    refine ITri.seq ?_
    refine ITri.one (P := Try.prog) [(0, .slice (some ⟨1, 0, none⟩) n c), (1, .int .i64 lots), (2, .int .i64 tools), (12, .int .i64 k), (67, .bool (!(inT lot (-1) (lots - 1) && inT tool 0 (tools - 1))))] ?_ ?_
    · refine ITri.reg pokT ?_; simp -implicitDefEqProofs (disch := first | decide | exact of_eq_true (eq_true rfl) | omega | assumption) only [gb,  ↓vcD, vcE, evs, evP, evB, intsOf, fillC, Value.cells, pt, List.append_nil, List.nil_append, List.cons_append, List.length_cons, List.length_nil, List.filter_nil, List.map_nil, ↓List.getElem?_cons_zero, ↓List.getElem?_cons_succ, List.getElem?_cons_zero, List.getElem?_cons_succ, List.set_cons_zero, List.set_cons_succ, Option.join_some, Option.join_none, Option.map_some, List.all_cons, List.all_nil, Value.oneCell', reduceIte, reduceCtorEq, Nat.reduceEqDiff, Nat.reduceAdd, Nat.reduceMul, Nat.reduceLT, Nat.reduceBEq, Nat.reduceLeDiff, Nat.reduceSub, List.size_toArray] -- r13
      refine ⟨_, _, within_f _ _ _ (sees0 rfl (of_decide_eq_true rfl)), ?_⟩
      cases g6 : inT lot (-1) (lots - 1) with
      | false => simp -implicitDefEqProofs (disch := first | decide | exact of_eq_true (eq_true rfl) | omega | assumption) only [g6, Bool.false_and, Bool.not_false,  ↓vcD, vcE, evs, evP, evB, intsOf, fillC, Value.cells, pt, List.append_nil, List.nil_append, List.cons_append, List.length_cons, List.length_nil, List.filter_nil, List.map_nil, ↓List.getElem?_cons_zero, ↓List.getElem?_cons_succ, List.getElem?_cons_zero, List.getElem?_cons_succ, List.set_cons_zero, List.set_cons_succ, Option.join_some, Option.join_none, Option.map_some, List.all_cons, List.all_nil, Value.oneCell', reduceIte, reduceCtorEq, Nat.reduceEqDiff, Nat.reduceAdd, Nat.reduceMul, Nat.reduceLT, Nat.reduceBEq, Nat.reduceLeDiff, Nat.reduceSub, List.size_toArray]
      | true =>
      simp -implicitDefEqProofs (disch := first | decide | exact of_eq_true (eq_true rfl) | omega | assumption) only [g6, gc,  ↓vcD, vcE, evs, evP, evB, intsOf, fillC, Value.cells, pt, List.append_nil, List.nil_append, List.cons_append, List.length_cons, List.length_nil, List.filter_nil, List.map_nil, ↓List.getElem?_cons_zero, ↓List.getElem?_cons_succ, List.getElem?_cons_zero, List.getElem?_cons_succ, List.set_cons_zero, List.set_cons_succ, Option.join_some, Option.join_none, Option.map_some, List.all_cons, List.all_nil, Value.oneCell', reduceIte, reduceCtorEq, Nat.reduceEqDiff, Nat.reduceAdd, Nat.reduceMul, Nat.reduceLT, Nat.reduceBEq, Nat.reduceLeDiff, Nat.reduceSub, List.size_toArray]
      refine ⟨_, _, within_f _ _ _ (sees0 rfl (of_decide_eq_true rfl)), ?_⟩
      simp -implicitDefEqProofs (disch := first | decide | exact of_eq_true (eq_true rfl) | omega | assumption) only [g6, Bool.true_and,  ↓vcD, vcE, evs, evP, evB, intsOf, fillC, Value.cells, pt, List.append_nil, List.nil_append, List.cons_append, List.length_cons, List.length_nil, List.filter_nil, List.map_nil, ↓List.getElem?_cons_zero, ↓List.getElem?_cons_succ, List.getElem?_cons_zero, List.getElem?_cons_succ, List.set_cons_zero, List.set_cons_succ, Option.join_some, Option.join_none, Option.map_some, List.all_cons, List.all_nil, Value.oneCell', reduceIte, reduceCtorEq, Nat.reduceEqDiff, Nat.reduceAdd, Nat.reduceMul, Nat.reduceLT, Nat.reduceBEq, Nat.reduceLeDiff, Nat.reduceSub, List.size_toArray]
    cases g7 : (inT lot (-1) (lots - 1) && inT tool 0 (tools - 1)) with
    | false =>
      rw [if_pos (by rw [Bool.and_eq_false_iff] at g7; exact g7)] at hS
      rw [hS]
      refine ITri.cond (v := true) rfl (fun _ => ?_) (fun h => by cases h)
      refine ITri.seq ?_
      refine ITri.reg pokT ?_; simp -implicitDefEqProofs (disch := first | decide | exact of_eq_true (eq_true rfl) | omega | assumption) only [ ↓vcD, vcE, evs, evP, evB, intsOf, fillC, Value.cells, pt, List.append_nil, List.nil_append, List.cons_append, List.length_cons, List.length_nil, List.filter_nil, List.map_nil, ↓List.getElem?_cons_zero, ↓List.getElem?_cons_succ, List.getElem?_cons_zero, List.getElem?_cons_succ, List.set_cons_zero, List.set_cons_succ, Option.join_some, Option.join_none, Option.map_some, List.all_cons, List.all_nil, Value.oneCell', reduceIte, reduceCtorEq, Nat.reduceEqDiff, Nat.reduceAdd, Nat.reduceMul, Nat.reduceLT, Nat.reduceBEq, Nat.reduceLeDiff, Nat.reduceSub, List.size_toArray] -- r14
      refine ITri.ret ?_; exact EndR.plain (by simp) (by rfl) (by rfl) (by rfl)
    | true =>
    rw [Bool.and_eq_true] at g7
    rw [if_neg (by rw [g7.1, g7.2]; simp)] at hS
    refine ITri.cond (v := false) rfl (fun h => by cases h) (fun _ => ?_); refine ITri.skip ?_; simp only [SeqQ_normal, BlkQ_normal]
    refine ITri.reg pokT ?_; simp -implicitDefEqProofs (disch := first | decide | exact of_eq_true (eq_true rfl) | omega | assumption) only [ga,  ↓vcD, vcE, evs, evP, evB, intsOf, fillC, Value.cells, pt, List.append_nil, List.nil_append, List.cons_append, List.length_cons, List.length_nil, List.filter_nil, List.map_nil, ↓List.getElem?_cons_zero, ↓List.getElem?_cons_succ, List.getElem?_cons_zero, List.getElem?_cons_succ, List.set_cons_zero, List.set_cons_succ, Option.join_some, Option.join_none, Option.map_some, List.all_cons, List.all_nil, Value.oneCell', reduceIte, reduceCtorEq, Nat.reduceEqDiff, Nat.reduceAdd, Nat.reduceMul, Nat.reduceLT, Nat.reduceBEq, Nat.reduceLeDiff, Nat.reduceSub, List.size_toArray] -- r15
    refine ITri.reg pokT ?_; simp -implicitDefEqProofs (disch := first | decide | exact of_eq_true (eq_true rfl) | omega | assumption) only [ ↓vcD, vcE, evs, evP, evB, intsOf, fillC, Value.cells, pt, List.append_nil, List.nil_append, List.cons_append, List.length_cons, List.length_nil, List.filter_nil, List.map_nil, ↓List.getElem?_cons_zero, ↓List.getElem?_cons_succ, List.getElem?_cons_zero, List.getElem?_cons_succ, List.set_cons_zero, List.set_cons_succ, Option.join_some, Option.join_none, Option.map_some, List.all_cons, List.all_nil, Value.oneCell', reduceIte, reduceCtorEq, Nat.reduceEqDiff, Nat.reduceAdd, Nat.reduceMul, Nat.reduceLT, Nat.reduceBEq, Nat.reduceLeDiff, Nat.reduceSub, List.size_toArray] -- r10
    refine LoopQ.next (k + 1, at') ?_ ?_ ?_
    · exact ⟨by show k + 1 ≤ n; omega, hS⟩
    · show n - (k + 1) < n - k
      omega
    · exact Wk.sub ⟨rfl, rfl, rfl, rfl, rfl, trivial⟩
  refine ITri.exit ?_; try simp -implicitDefEqProofs (disch := first | decide | exact of_eq_true (eq_true rfl) | omega | assumption) only [ ↓vcD, vcE, evs, evP, evB, intsOf, fillC, Value.cells, pt, List.append_nil, List.nil_append, List.cons_append, List.length_cons, List.length_nil, List.filter_nil, List.map_nil, ↓List.getElem?_cons_zero, ↓List.getElem?_cons_succ, List.getElem?_cons_zero, List.getElem?_cons_succ, List.set_cons_zero, List.set_cons_succ, Option.join_some, Option.join_none, Option.map_some, List.all_cons, List.all_nil, Value.oneCell', reduceIte, reduceCtorEq, Nat.reduceEqDiff, Nat.reduceAdd, Nat.reduceMul, Nat.reduceLT, Nat.reduceBEq, Nat.reduceLeDiff, Nat.reduceSub, List.size_toArray]
  have hnk : k = l.length := by omega
  rw [hnk, List.drop_length, tcS] at hS
  rw [hS]
  refine ITri.seq ?_
  refine ITri.reg pokT ?_; simp -implicitDefEqProofs (disch := first | decide | exact of_eq_true (eq_true rfl) | omega | assumption) only [ ↓vcD, vcE, evs, evP, evB, intsOf, fillC, Value.cells, pt, List.append_nil, List.nil_append, List.cons_append, List.length_cons, List.length_nil, List.filter_nil, List.map_nil, ↓List.getElem?_cons_zero, ↓List.getElem?_cons_succ, List.getElem?_cons_zero, List.getElem?_cons_succ, List.set_cons_zero, List.set_cons_succ, Option.join_some, Option.join_none, Option.map_some, List.all_cons, List.all_nil, Value.oneCell', reduceIte, reduceCtorEq, Nat.reduceEqDiff, Nat.reduceAdd, Nat.reduceMul, Nat.reduceLT, Nat.reduceBEq, Nat.reduceLeDiff, Nat.reduceSub, List.size_toArray] -- r16
  refine ITri.ret ?_; exact EndR.plain (by simp) (by rfl) (by rfl) (by rfl)
end Go.Proofs.Ytfmcdbcoljpomaa
