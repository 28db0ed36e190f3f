/-
  Chapter 7 by names: the reference's Proves.
-/
import Derived.Test.YtlkfcbdbieenhaaCropQ1
set_option linter.unusedSimpArgs false
set_option linter.unusedVariables false
namespace Go.Proofs.Ytlkfcbdbieenhaa
open Go.RowKit Go.Vm
set_option maxRecDepth 100000

/- boule/bouleref07.Proves · slots 87 · names 0:l 1:s 2:bounds 3:l 4:s 5:bounds 7:n 8:a 9:b 10:x · results [6] -/
def ir35_r0 : IC := .reg [⟨some 4, none, false, .box (.t 1)⟩,
  ⟨some 6, none, false, .mv (.k (.bool false))⟩] (some [0, 2, 4])
def ir35_r1 : IC := .reg [⟨some 11, none, false, .mv (.t 0)⟩,
  ⟨some 12, none, false, .call (.f 13) [(.t 11)]⟩,
  ⟨some 7, none, false, .mv (.t 12)⟩] (some [0, 2, 4, 7])
def ir35_r2 : IC := .reg [⟨some 13, none, false, .mv (.t 2)⟩,
  ⟨some 14, none, false, .len (.t 13)⟩,
  ⟨some 15, none, false, .mv (.t 7)⟩,
  ⟨some 16, none, false, .ar .add (.t 15) (.k (.int .i64 1))⟩,
  ⟨some 17, none, false, .cmp .neq (.t 14) (.t 16)⟩] (some [0, 2, 4, 7, 17])
def ir35_r3 : IC := .reg [⟨some 6, none, false, .mv (.k (.bool false))⟩] (some [6])
def ir35_1 : IC := .seq ir35_r3 .ret
def ir35_2 : IC := .cond (.t 17) ir35_1 .skip
def ir35_3 : IC := .seq ir35_r2 ir35_2
def ir35_r4 : IC := .reg [⟨some 8, none, false, .mv (.k (.int .i64 0))⟩] (some [0, 2, 4, 7, 8])
def ir35_r5 : IC := .reg [⟨some 18, none, false, .mv (.t 8)⟩,
  ⟨some 19, none, false, .mv (.t 7)⟩,
  ⟨some 20, none, false, .cmp .leq (.t 18) (.t 19)⟩] (some [0, 2, 4, 7, 8, 20])
def ir35_4 : IC := .cond (.t 20) .skip (.exit 0)
def ir35_5 : IC := .seq ir35_r5 ir35_4
def ir35_r7 : IC := .draw [(⟨some 23, none, false, .mv (.t 2)⟩, false, 0, 0),
  (⟨some 24, none, false, .mv (.t 8)⟩, false, 0, 0),
  (⟨some 25, none, false, .iad 1 (.t 23) (.t 24)⟩, false, 3, 0),
  (⟨some 26, none, false, .ldc (.t 25)⟩, true, 7, 1),
  (⟨some 27, none, false, .call (.f 47) [(.t 26), (.k (.int .i64 0)), (.k (.int .i64 1000000000000000))]⟩, true, 15, 1),
  (⟨some 28, none, false, .not (.t 27)⟩, false, 31, 0),
  (⟨some 29, none, false, .mv (.t 28)⟩, false, 63, 0),
  (⟨some 30, some (29, false), false, .mv (.t 8)⟩, false, 127, 0),
  (⟨some 31, some (29, false), false, .mv (.t 7)⟩, false, 127, 0),
  (⟨some 32, some (29, false), false, .cmp .lss (.t 30) (.t 31)⟩, false, 511, 0),
  (⟨some 33, some (29, false), false, .mv (.t 32)⟩, false, 1023, 0),
  (⟨some 34, some (33, true), false, .mv (.t 2)⟩, false, 2047, 0),
  (⟨some 35, some (33, true), false, .mv (.t 8)⟩, false, 2047, 0),
  (⟨some 36, some (33, true), false, .iad 1 (.t 34) (.t 35)⟩, false, 8191, 0),
  (⟨some 37, some (33, true), false, .ldc (.t 36)⟩, false, 16383, 1),
  (⟨some 38, some (33, true), false, .mv (.t 2)⟩, false, 2047, 0),
  (⟨some 39, some (33, true), false, .mv (.t 8)⟩, false, 2047, 0),
  (⟨some 40, some (33, true), false, .ar .add (.t 39) (.k (.int .i64 1))⟩, false, 67583, 0),
  (⟨some 41, some (33, true), false, .iad 1 (.t 38) (.t 40)⟩, false, 231423, 0),
  (⟨some 42, some (33, true), false, .ldc (.t 41)⟩, false, 493567, 16384),
  (⟨some 43, some (33, true), false, .cmp .lss (.t 37) (.t 42)⟩, false, 1048575, 0),
  (⟨some 44, some (29, false), false, .pick (.t 33) (.t 43) (.k (.bool false))⟩, false, 2097151, 0),
  (⟨some 45, none, false, .pick (.t 29) (.k (.bool true)) (.t 44)⟩, false, 4194303, 0)] (some [0, 2, 4, 7, 8, 45])
def ir35_r8 : IC := .reg [⟨some 6, none, false, .mv (.k (.bool false))⟩] (some [6])
def ir35_6 : IC := .seq ir35_r8 .ret
def ir35_7 : IC := .cond (.t 45) ir35_6 .skip
def ir35_8 : IC := .seq ir35_r7 ir35_7
def ir35_r9 : IC := .reg [⟨some 46, none, false, .mv (.t 8)⟩,
  ⟨some 47, none, false, .fad 0 (.t 4)⟩,
  ⟨some 48, none, false, .ldc (.t 47)⟩,
  ⟨some 49, none, false, .ar .add (.t 46) (.t 48)⟩,
  ⟨some 9, none, false, .mv (.t 49)⟩] (some [0, 2, 4, 7, 8, 9])
def ir35_r10 : IC := .reg [⟨some 50, none, false, .mv (.t 9)⟩,
  ⟨some 51, none, false, .mv (.t 8)⟩,
  ⟨some 52, none, false, .fad 1 (.t 4)⟩,
  ⟨some 53, none, false, .ldc (.t 52)⟩,
  ⟨some 54, none, false, .ar .add (.t 51) (.t 53)⟩,
  ⟨some 55, none, false, .mv (.t 7)⟩,
  ⟨some 56, none, false, .mm true [(.t 54), (.t 55)]⟩,
  ⟨some 57, none, false, .cmp .leq (.t 50) (.t 56)⟩] (some [0, 2, 4, 7, 8, 9, 57])
def ir35_9 : IC := .cond (.t 57) .skip (.exit 2)
def ir35_10 : IC := .seq ir35_r10 ir35_9
def ir35_r12 : IC := .reg [⟨some 60, none, false, .mv (.t 8)⟩,
  ⟨some 61, none, false, .mv (.t 9)⟩,
  ⟨some 62, none, false, .bld [(.int .i64 0), (.int .i64 0)] [(0, 1, (.t 60)), (1, 1, (.t 61))]⟩,
  ⟨some 10, none, false, .alloc [(.int .i64 0), (.int .i64 0)]⟩,
  ⟨none, none, false, .st 2 (.t 10) (.t 62)⟩] (some [0, 2, 4, 7, 8, 9, 10])
def ir35_r13 : IC := .draw [(⟨some 63, none, false, .mv (.t 0)⟩, false, 0, 0),
  (⟨some 64, none, false, .lda 3 (.t 4)⟩, false, 0, 1),
  (⟨some 65, none, false, .lda 2 (.t 10)⟩, false, 0, 1),
  (⟨some 66, none, false, .call (.f 27) [(.t 63), (.t 64), (.t 65)]⟩, true, 7, 1),
  (⟨some 67, none, false, .mv (.t 66)⟩, false, 15, 0),
  (⟨some 68, some (67, true), false, .mv (.t 2)⟩, false, 31, 0),
  (⟨some 69, some (67, true), false, .mv (.t 8)⟩, false, 31, 0),
  (⟨some 70, some (67, true), false, .iad 1 (.t 68) (.t 69)⟩, false, 127, 0),
  (⟨some 71, some (67, true), false, .ldc (.t 70)⟩, false, 255, 1),
  (⟨some 72, some (67, true), false, .mv (.t 0)⟩, false, 31, 0),
  (⟨some 73, some (67, true), false, .lda 2 (.t 10)⟩, false, 31, 256),
  (⟨some 74, some (67, true), false, .call (.f 28) [(.t 72), (.t 73)]⟩, false, 1567, 256),
  (⟨some 75, some (67, true), false, .mv (.t 2)⟩, false, 31, 0),
  (⟨some 76, some (67, true), false, .mv (.t 7)⟩, false, 31, 0),
  (⟨some 77, some (67, true), false, .mv (.t 9)⟩, false, 31, 0),
  (⟨some 78, some (67, true), false, .fad 2 (.t 4)⟩, false, 31, 0),
  (⟨some 79, some (67, true), false, .ldc (.t 78)⟩, false, 32799, 1792),
  (⟨some 80, some (67, true), false, .ar .add (.t 77) (.t 79)⟩, false, 114719, 0),
  (⟨some 81, some (67, true), false, .mm true [(.t 76), (.t 80)]⟩, false, 253983, 1792),
  (⟨some 82, some (67, true), false, .iad 1 (.t 75) (.t 81)⟩, false, 520223, 0),
  (⟨some 83, some (67, true), false, .ldc (.t 82)⟩, false, 1044511, 1792),
  (⟨some 84, some (67, true), true, .ar .add (.t 74) (.t 83)⟩, false, 2096671, 0),
  (⟨some 85, some (67, true), false, .cmp .lss (.t 71) (.t 84)⟩, false, 4194303, 0),
  (⟨some 86, none, false, .pick (.t 67) (.t 85) (.k (.bool false))⟩, false, 8388607, 0)] (some [0, 2, 4, 7, 8, 9, 86])
def ir35_r14 : IC := .reg [⟨some 6, none, false, .mv (.k (.bool false))⟩] (some [6])
def ir35_11 : IC := .seq ir35_r14 .ret
def ir35_12 : IC := .cond (.t 86) ir35_11 .skip
def ir35_13 : IC := .seq ir35_r13 ir35_12
def ir35_14 : IC := .seq ir35_r12 ir35_13
def ir35_15 : IC := .block 3 ir35_14
def ir35_r11 : IC := .reg [⟨some 58, none, false, .mv (.t 9)⟩,
  ⟨some 59, none, false, .ar .add (.t 58) (.k (.int .i64 1))⟩,
  ⟨some 9, none, false, .mv (.t 59)⟩] (some [0, 2, 4, 7, 8, 9])
def ir35_16 : IC := .seq ir35_15 ir35_r11
def ir35_17 : IC := .seq ir35_10 ir35_16
def ir35_18 : IC := .loop ir35_17
def ir35_19 : IC := .block 2 ir35_18
def ir35_20 : IC := .seq ir35_r9 ir35_19
def ir35_21 : IC := .seq ir35_8 ir35_20
def ir35_22 : IC := .block 1 ir35_21
def ir35_r6 : IC := .reg [⟨some 21, none, false, .mv (.t 8)⟩,
  ⟨some 22, none, false, .ar .add (.t 21) (.k (.int .i64 1))⟩,
  ⟨some 8, none, false, .mv (.t 22)⟩] (some [0, 2, 4, 7, 8])
def ir35_23 : IC := .seq ir35_22 ir35_r6
def ir35_24 : IC := .seq ir35_5 ir35_23
def ir35_25 : IC := .loop ir35_24
def ir35_26 : IC := .block 0 ir35_25
def ir35_27 : IC := .seq ir35_r4 ir35_26
def ir35_r15 : IC := .reg [⟨some 6, none, false, .mv (.k (.bool true))⟩] (some [6])
def ir35_28 : IC := .seq ir35_r15 .ret
def ir35_29 : IC := .seq ir35_27 ir35_28
def ir35_30 : IC := .seq ir35_3 ir35_29
def ir35_31 : IC := .seq ir35_r1 ir35_30
def ir35_32 : IC := .seq ir35_r0 ir35_31
def ir35 : IC := ir35_32
theorem fn35 : FnIs Try.prog 35 ir35 87 [.tmp 6] := ⟨Try.f35, Try.f35.body.getD .skip, Try.func35, by kernel_rfl, by kernel_rfl, by kernel_rfl, by kernel_rfl⟩
abbrev rpM (l : List St) (bd : List Int) (k1 k2 k3 : Int) : AH := Hp 3 [none, some (.cells ⟨rows eII l, 0, false⟩), some (.cells ⟨rows eI bd, 0, false⟩), some (.cells ⟨[.int .i64 k1, .int .i64 k2, .int .i64 k3], 1, false⟩)]
theorem refProves_c (n c : Nat) (l : List St) (k1 k2 k3 : Int) (nb cb : Nat) (bd : List Int) (hn : l.length = n) (hnb : bd.length = nb) (hc : checkF l (k1, k2, k3) = 0) :
    Fc Try.prog 35 [s1 n c, sawV k1 k2 k3, .slice (some ⟨2, 0, none⟩) nb cb] (Hp 3 [none, some (.cells ⟨rows eII l, 0, false⟩), some (.cells ⟨rows eI bd, 0, false⟩)]) (.bool (provesF l k1 k2 k3 bd)) (Hp 3 [none, some (.cells ⟨rows eII l, 0, false⟩), some (.cells ⟨rows eI bd, 0, false⟩)]) := by
  have hok := checkF_ok hc
  have hlf := lenF_bd hok.2.1
  have hno : ∀ {A : Nat → Prop}, ¬ ((bd.length : Int) = lenF l + 1 ∧ ∀ a : Nat, (a : Int) ≤ lenF l → rpA l k1 k2 k3 bd a) → provesF l k1 k2 k3 bd = false := fun h => by
    cases he : provesF l k1 k2 k3 bd with
    | false => rfl
    | true => exact absurd ((rp_pv hc).1 he) h
  refine Fc.intro0 fn35 (by simp) rfl rfl ?_; simp only [argF]
  refine ITri.seq ?_
  refine ITri.reg pok ?_; simp -implicitDefEqProofs (disch := first | decide | exact of_eq_true (eq_true rfl) | omega) only [ ↓vcD, vcE, evs, evP, evB, intsOf, fillC, Value.cells, pt, List.append_nil, List.nil_append, List.cons_append, List.length_cons, List.length_nil, List.filter_nil, List.map_nil, ↓List.getElem?_cons_zero, ↓List.getElem?_cons_succ, List.getElem?_cons_zero, List.getElem?_cons_succ, List.set_cons_zero, List.set_cons_succ, Option.join_some, Option.join_none, Option.map_some, List.all_cons, List.all_nil, Value.oneCell', reduceIte, reduceCtorEq, Nat.reduceEqDiff, Nat.reduceAdd, Nat.reduceMul, Nat.reduceLT, Nat.reduceBEq, Nat.reduceLeDiff, Nat.reduceSub, List.size_toArray] -- r0 ref.go:125
  refine ITri.seq ?_
  refine ITri.reg pok ?_; simp -implicitDefEqProofs (disch := first | decide | exact of_eq_true (eq_true rfl) | omega) only [ ↓vcD, vcE, evs, evP, evB, intsOf, fillC, Value.cells, pt, List.append_nil, List.nil_append, List.cons_append, List.length_cons, List.length_nil, List.filter_nil, List.map_nil, ↓List.getElem?_cons_zero, ↓List.getElem?_cons_succ, List.getElem?_cons_zero, List.getElem?_cons_succ, List.set_cons_zero, List.set_cons_succ, Option.join_some, Option.join_none, Option.map_some, List.all_cons, List.all_nil, Value.oneCell', reduceIte, reduceCtorEq, Nat.reduceEqDiff, Nat.reduceAdd, Nat.reduceMul, Nat.reduceLT, Nat.reduceBEq, Nat.reduceLeDiff, Nat.reduceSub, List.size_toArray] -- r1 ref.go:126 CALLS .call F13 [%11]
  refine ⟨_, _, refLength_f n l hn (by omega) hok.2.1 (sees0 rfl (of_decide_eq_true rfl)) (Rd.hq rfl rfl), ?_⟩
  try simp -implicitDefEqProofs (disch := first | decide | exact of_eq_true (eq_true rfl) | omega) only [ ↓vcD, vcE, evs, evP, evB, intsOf, fillC, Value.cells, pt, List.append_nil, List.nil_append, List.cons_append, List.length_cons, List.length_nil, List.filter_nil, List.map_nil, ↓List.getElem?_cons_zero, ↓List.getElem?_cons_succ, List.getElem?_cons_zero, List.getElem?_cons_succ, List.set_cons_zero, List.set_cons_succ, Option.join_some, Option.join_none, Option.map_some, List.all_cons, List.all_nil, Value.oneCell', reduceIte, reduceCtorEq, Nat.reduceEqDiff, Nat.reduceAdd, Nat.reduceMul, Nat.reduceLT, Nat.reduceBEq, Nat.reduceLeDiff, Nat.reduceSub, List.size_toArray]
  refine ITri.seq ?_
  refine ITri.seq ?_
  refine ITri.reg pok ?_; simp -implicitDefEqProofs (disch := first | decide | exact of_eq_true (eq_true rfl) | omega) only [ ↓vcD, vcE, evs, evP, evB, intsOf, fillC, Value.cells, pt, List.append_nil, List.nil_append, List.cons_append, List.length_cons, List.length_nil, List.filter_nil, List.map_nil, ↓List.getElem?_cons_zero, ↓List.getElem?_cons_succ, List.getElem?_cons_zero, List.getElem?_cons_succ, List.set_cons_zero, List.set_cons_succ, Option.join_some, Option.join_none, Option.map_some, List.all_cons, List.all_nil, Value.oneCell', reduceIte, reduceCtorEq, Nat.reduceEqDiff, Nat.reduceAdd, Nat.reduceMul, Nat.reduceLT, Nat.reduceBEq, Nat.reduceLeDiff, Nat.reduceSub, List.size_toArray] -- r2 ref.go:127
  refine ITri.condN (by rfl) (fun h1 => ?_) (fun h1 => ?_) -- %17
  · refine ITri.seq ?_
    refine ITri.reg pok ?_; simp -implicitDefEqProofs (disch := first | decide | exact of_eq_true (eq_true rfl) | omega) only [ ↓vcD, vcE, evs, evP, evB, intsOf, fillC, Value.cells, pt, List.append_nil, List.nil_append, List.cons_append, List.length_cons, List.length_nil, List.filter_nil, List.map_nil, ↓List.getElem?_cons_zero, ↓List.getElem?_cons_succ, List.getElem?_cons_zero, List.getElem?_cons_succ, List.set_cons_zero, List.set_cons_succ, Option.join_some, Option.join_none, Option.map_some, List.all_cons, List.all_nil, Value.oneCell', reduceIte, reduceCtorEq, Nat.reduceEqDiff, Nat.reduceAdd, Nat.reduceMul, Nat.reduceLT, Nat.reduceBEq, Nat.reduceLeDiff, Nat.reduceSub, List.size_toArray] -- r3 ref.go:128
    refine ITri.ret ?_; exact EndR.plain (by simp) (by rfl) (by rw [hno (A := fun _ => True) (fun h => by omega)]; rfl) (by rfl)
  refine ITri.skip ?_; simp only [SeqQ_normal, BlkQ_normal]
  refine ITri.seq ?_
  refine ITri.seq ?_
  refine ITri.reg pok ?_; simp -implicitDefEqProofs (disch := first | decide | exact of_eq_true (eq_true rfl) | omega) only [ ↓vcD, vcE, evs, evP, evB, intsOf, fillC, Value.cells, pt, List.append_nil, List.nil_append, List.cons_append, List.length_cons, List.length_nil, List.filter_nil, List.map_nil, ↓List.getElem?_cons_zero, ↓List.getElem?_cons_succ, List.getElem?_cons_zero, List.getElem?_cons_succ, List.set_cons_zero, List.set_cons_succ, Option.join_some, Option.join_none, Option.map_some, List.all_cons, List.all_nil, Value.oneCell', reduceIte, reduceCtorEq, Nat.reduceEqDiff, Nat.reduceAdd, Nat.reduceMul, Nat.reduceLT, Nat.reduceBEq, Nat.reduceLeDiff, Nat.reduceSub, List.size_toArray] -- r4 ref.go:130
  refine ITri.block ?_ -- 0
  refine ITri.loop (fun a : Nat => [(0, s1 n c), (2, .slice (some ⟨2, 0, none⟩) nb cb), (4, pt 3), (7, .int .i64 (lenF l)), (8, .int .i64 a)]) (fun _ => []) (fun _ => rpM l bd k1 k2 k3) (fun a => (a : Int) ≤ lenF l + 1 ∧ ∀ f, f < a → rpA l k1 k2 k3 bd f) (fun a => (lenF l + 1 - a).toNat) 0 ⟨by omega, fun f hf => by omega⟩ (Wk.sub ⟨rfl, rfl, rfl, rfl, rfl, trivial⟩) fun a ha => ?_
  obtain ⟨ha, hpre⟩ := ha
  refine ITri.seq ?_
  refine ITri.seq ?_
  refine ITri.reg pok ?_; simp -implicitDefEqProofs (disch := first | decide | exact of_eq_true (eq_true rfl) | omega) only [ ↓vcD, vcE, evs, evP, evB, intsOf, fillC, Value.cells, pt, List.append_nil, List.nil_append, List.cons_append, List.length_cons, List.length_nil, List.filter_nil, List.map_nil, ↓List.getElem?_cons_zero, ↓List.getElem?_cons_succ, List.getElem?_cons_zero, List.getElem?_cons_succ, List.set_cons_zero, List.set_cons_succ, Option.join_some, Option.join_none, Option.map_some, List.all_cons, List.all_nil, Value.oneCell', reduceIte, reduceCtorEq, Nat.reduceEqDiff, Nat.reduceAdd, Nat.reduceMul, Nat.reduceLT, Nat.reduceBEq, Nat.reduceLeDiff, Nat.reduceSub, List.size_toArray] -- r5 ref.go:130
  refine ITri.condD (by rfl) (fun h3 => ?_) (fun h3 => ?_) -- %20
  · have hab : a < bd.length := by omega
    refine ITri.skip ?_; simp only [SeqQ_normal, BlkQ_normal]
    refine ITri.seq ?_
    refine ITri.block ?_ -- 1
    refine ITri.seq ?_
    refine ITri.seq ?_
    have hfail : ¬ rpA l k1 k2 k3 bd a → provesF l k1 k2 k3 bd = false := fun h => hno (A := fun _ => True) fun h2 => h (h2.2 a h3)
    have e1 : ((a : Int) + 1).toNat = a + 1 := by omega
    refine ITri.one (P := Try.prog) [(0, s1 n c), (2, .slice (some ⟨2, 0, none⟩) nb cb), (4, pt 3), (7, .int .i64 (lenF l)), (8, .int .i64 a), (45, .bool (!inB (nth bd a) 0 1000000000000000 || (decide ((a : Int) < lenF l) && decide (nth bd a < nth bd (a + 1)))))] ?_ ?_
    · by_cases h4 : inB (nth bd a) 0 1000000000000000 = true
      · by_cases h5 : (a : Int) < lenF l
        · refine ITri.draw pok ?_; simp -implicitDefEqProofs (disch := first | decide | exact of_eq_true (eq_true rfl) | omega) only [getI,  ↓vcD, vcE, evs, evP, evB, intsOf, fillC, Value.cells, pt, List.append_nil, List.nil_append, List.cons_append, List.length_cons, List.length_nil, List.filter_nil, List.map_nil, ↓List.getElem?_cons_zero, ↓List.getElem?_cons_succ, List.getElem?_cons_zero, List.getElem?_cons_succ, List.set_cons_zero, List.set_cons_succ, Option.join_some, Option.join_none, Option.map_some, List.all_cons, List.all_nil, Value.oneCell', reduceIte, reduceCtorEq, Nat.reduceEqDiff, Nat.reduceAdd, Nat.reduceMul, Nat.reduceLT, Nat.reduceBEq, Nat.reduceLeDiff, Nat.reduceSub, List.size_toArray]
          refine ⟨_, _, refIn_f _ _ _ (sees0 rfl (of_decide_eq_true rfl)), ?_⟩
          simp -implicitDefEqProofs (disch := first | decide | exact of_eq_true (eq_true rfl) | omega) only [h4, h5, getI, e1, decide_true, Bool.not_true,  ↓vcD, vcE, evs, evP, evB, intsOf, fillC, Value.cells, pt, List.append_nil, List.nil_append, List.cons_append, List.length_cons, List.length_nil, List.filter_nil, List.map_nil, ↓List.getElem?_cons_zero, ↓List.getElem?_cons_succ, List.getElem?_cons_zero, List.getElem?_cons_succ, List.set_cons_zero, List.set_cons_succ, Option.join_some, Option.join_none, Option.map_some, List.all_cons, List.all_nil, Value.oneCell', reduceIte, reduceCtorEq, Nat.reduceEqDiff, Nat.reduceAdd, Nat.reduceMul, Nat.reduceLT, Nat.reduceBEq, Nat.reduceLeDiff, Nat.reduceSub, List.size_toArray]
        · refine ITri.draw pok ?_; simp -implicitDefEqProofs (disch := first | decide | exact of_eq_true (eq_true rfl) | omega) only [getI,  ↓vcD, vcE, evs, evP, evB, intsOf, fillC, Value.cells, pt, List.append_nil, List.nil_append, List.cons_append, List.length_cons, List.length_nil, List.filter_nil, List.map_nil, ↓List.getElem?_cons_zero, ↓List.getElem?_cons_succ, List.getElem?_cons_zero, List.getElem?_cons_succ, List.set_cons_zero, List.set_cons_succ, Option.join_some, Option.join_none, Option.map_some, List.all_cons, List.all_nil, Value.oneCell', reduceIte, reduceCtorEq, Nat.reduceEqDiff, Nat.reduceAdd, Nat.reduceMul, Nat.reduceLT, Nat.reduceBEq, Nat.reduceLeDiff, Nat.reduceSub, List.size_toArray]
          refine ⟨_, _, refIn_f _ _ _ (sees0 rfl (of_decide_eq_true rfl)), ?_⟩
          simp -implicitDefEqProofs (disch := first | decide | exact of_eq_true (eq_true rfl) | omega) only [h4, h5, getI, e1, decide_false, Bool.not_true,  ↓vcD, vcE, evs, evP, evB, intsOf, fillC, Value.cells, pt, List.append_nil, List.nil_append, List.cons_append, List.length_cons, List.length_nil, List.filter_nil, List.map_nil, ↓List.getElem?_cons_zero, ↓List.getElem?_cons_succ, List.getElem?_cons_zero, List.getElem?_cons_succ, List.set_cons_zero, List.set_cons_succ, Option.join_some, Option.join_none, Option.map_some, List.all_cons, List.all_nil, Value.oneCell', reduceIte, reduceCtorEq, Nat.reduceEqDiff, Nat.reduceAdd, Nat.reduceMul, Nat.reduceLT, Nat.reduceBEq, Nat.reduceLeDiff, Nat.reduceSub, List.size_toArray]
      · rw [Bool.not_eq_true] at h4
        refine ITri.draw pok ?_; simp -implicitDefEqProofs (disch := first | decide | exact of_eq_true (eq_true rfl) | omega) only [getI,  ↓vcD, vcE, evs, evP, evB, intsOf, fillC, Value.cells, pt, List.append_nil, List.nil_append, List.cons_append, List.length_cons, List.length_nil, List.filter_nil, List.map_nil, ↓List.getElem?_cons_zero, ↓List.getElem?_cons_succ, List.getElem?_cons_zero, List.getElem?_cons_succ, List.set_cons_zero, List.set_cons_succ, Option.join_some, Option.join_none, Option.map_some, List.all_cons, List.all_nil, Value.oneCell', reduceIte, reduceCtorEq, Nat.reduceEqDiff, Nat.reduceAdd, Nat.reduceMul, Nat.reduceLT, Nat.reduceBEq, Nat.reduceLeDiff, Nat.reduceSub, List.size_toArray]
        refine ⟨_, _, refIn_f _ _ _ (sees0 rfl (of_decide_eq_true rfl)), ?_⟩
        simp -implicitDefEqProofs (disch := first | decide | exact of_eq_true (eq_true rfl) | omega) only [h4, getI, e1, decide_false, Bool.not_false,  ↓vcD, vcE, evs, evP, evB, intsOf, fillC, Value.cells, pt, List.append_nil, List.nil_append, List.cons_append, List.length_cons, List.length_nil, List.filter_nil, List.map_nil, ↓List.getElem?_cons_zero, ↓List.getElem?_cons_succ, List.getElem?_cons_zero, List.getElem?_cons_succ, List.set_cons_zero, List.set_cons_succ, Option.join_some, Option.join_none, Option.map_some, List.all_cons, List.all_nil, Value.oneCell', reduceIte, reduceCtorEq, Nat.reduceEqDiff, Nat.reduceAdd, Nat.reduceMul, Nat.reduceLT, Nat.reduceBEq, Nat.reduceLeDiff, Nat.reduceSub, List.size_toArray]
    refine ITri.cond (by rfl) (fun h4 => ?_) (fun h4 => ?_) -- %45
    · refine ITri.seq ?_
      refine ITri.reg pok ?_; simp -implicitDefEqProofs (disch := first | decide | exact of_eq_true (eq_true rfl) | omega) only [ ↓vcD, vcE, evs, evP, evB, intsOf, fillC, Value.cells, pt, List.append_nil, List.nil_append, List.cons_append, List.length_cons, List.length_nil, List.filter_nil, List.map_nil, ↓List.getElem?_cons_zero, ↓List.getElem?_cons_succ, List.getElem?_cons_zero, List.getElem?_cons_succ, List.set_cons_zero, List.set_cons_succ, Option.join_some, Option.join_none, Option.map_some, List.all_cons, List.all_nil, Value.oneCell', reduceIte, reduceCtorEq, Nat.reduceEqDiff, Nat.reduceAdd, Nat.reduceMul, Nat.reduceLT, Nat.reduceBEq, Nat.reduceLeDiff, Nat.reduceSub, List.size_toArray] -- r8 ref.go:132
      refine ITri.ret ?_; exact EndR.plain (by simp) (by rfl) (by
        rw [hfail fun h => ?_]
        · rfl
        · simp only [Bool.or_eq_true, Bool.and_eq_true, decide_eq_true_eq, Bool.not_eq_true'] at h4
          rcases h4 with h4 | h4
          · exact inB_out h4 h.1
          · have := h.2.1 h4.1
            omega) (by rfl)
    simp only [Bool.or_eq_false_iff, Bool.not_eq_false', Bool.and_eq_false_iff, decide_eq_false_iff_not] at h4
    obtain ⟨h4, h5⟩ := h4
    have h4' := inB_iff.1 h4
    refine ITri.skip ?_; simp only [SeqQ_normal, BlkQ_normal]
    refine ITri.seq ?_
    refine ITri.reg pok ?_; simp -implicitDefEqProofs (disch := first | decide | exact of_eq_true (eq_true rfl) | omega) only [ ↓vcD, vcE, evs, evP, evB, intsOf, fillC, Value.cells, pt, List.append_nil, List.nil_append, List.cons_append, List.length_cons, List.length_nil, List.filter_nil, List.map_nil, ↓List.getElem?_cons_zero, ↓List.getElem?_cons_succ, List.getElem?_cons_zero, List.getElem?_cons_succ, List.set_cons_zero, List.set_cons_succ, Option.join_some, Option.join_none, Option.map_some, List.all_cons, List.all_nil, Value.oneCell', reduceIte, reduceCtorEq, Nat.reduceEqDiff, Nat.reduceAdd, Nat.reduceMul, Nat.reduceLT, Nat.reduceBEq, Nat.reduceLeDiff, Nat.reduceSub, List.size_toArray] -- r9 ref.go:134
    refine ITri.block ?_ -- 2
    refine ITri.loop (fun b : Int => [(0, s1 n c), (2, .slice (some ⟨2, 0, none⟩) nb cb), (4, pt 3), (7, .int .i64 (lenF l)), (8, .int .i64 a), (9, .int .i64 b)]) (fun _ => []) (fun _ => rpM l bd k1 k2 k3) (fun b => a + k1 ≤ b ∧ b ≤ 6000 ∧ ∀ t : Int, a + k1 ≤ t → t < b → t ≤ min (a + k2) (lenF l) → rpB l k1 k2 k3 bd a t) (fun b => (6001 - b).toNat) (a + k1) ⟨by omega, by omega, fun t h1 h2 => by omega⟩ (Wk.sub ⟨rfl, rfl, rfl, rfl, rfl, rfl, trivial⟩) fun b hb => ?_
    obtain ⟨hb1, hb2, hb3⟩ := hb
    refine ITri.seq ?_
    refine ITri.seq ?_
    refine ITri.reg pok ?_; simp -implicitDefEqProofs (disch := first | decide | exact of_eq_true (eq_true rfl) | omega) only [ ↓vcD, vcE, evs, evP, evB, intsOf, fillC, Value.cells, pt, List.append_nil, List.nil_append, List.cons_append, List.length_cons, List.length_nil, List.filter_nil, List.map_nil, ↓List.getElem?_cons_zero, ↓List.getElem?_cons_succ, List.getElem?_cons_zero, List.getElem?_cons_succ, List.set_cons_zero, List.set_cons_succ, Option.join_some, Option.join_none, Option.map_some, List.all_cons, List.all_nil, Value.oneCell', reduceIte, reduceCtorEq, Nat.reduceEqDiff, Nat.reduceAdd, Nat.reduceMul, Nat.reduceLT, Nat.reduceBEq, Nat.reduceLeDiff, Nat.reduceSub, List.size_toArray] -- r10 ref.go:134
    refine ITri.condD (by rfl) (fun h6 => ?_) (fun h6 => ?_) -- %57
    · refine ITri.skip ?_; simp only [SeqQ_normal, BlkQ_normal]
      refine ITri.seq ?_
      refine ITri.block ?_ -- 3
      refine ITri.seq ?_
      refine ITri.reg pok ?_; simp -implicitDefEqProofs (disch := first | decide | exact of_eq_true (eq_true rfl) | omega) only [ ↓vcD, vcE, evs, evP, evB, intsOf, fillC, Value.cells, pt, List.append_nil, List.nil_append, List.cons_append, List.length_cons, List.length_nil, List.filter_nil, List.map_nil, ↓List.getElem?_cons_zero, ↓List.getElem?_cons_succ, List.getElem?_cons_zero, List.getElem?_cons_succ, List.set_cons_zero, List.set_cons_succ, Option.join_some, Option.join_none, Option.map_some, List.all_cons, List.all_nil, Value.oneCell', reduceIte, reduceCtorEq, Nat.reduceEqDiff, Nat.reduceAdd, Nat.reduceMul, Nat.reduceLT, Nat.reduceBEq, Nat.reduceLeDiff, Nat.reduceSub, List.size_toArray] -- r12 ref.go:135
      refine ITri.seq ?_
      have e2 : (min (lenF l) (b + k3)).toNat < bd.length := by omega
      cases hal : alF l k1 k2 a b with
      | false =>
        refine ITri.draw pok ?_; simp -implicitDefEqProofs (disch := first | decide | exact of_eq_true (eq_true rfl) | omega) only [ ↓vcD, vcE, evs, evP, evB, intsOf, fillC, Value.cells, pt, List.append_nil, List.nil_append, List.cons_append, List.length_cons, List.length_nil, List.filter_nil, List.map_nil, ↓List.getElem?_cons_zero, ↓List.getElem?_cons_succ, List.getElem?_cons_zero, List.getElem?_cons_succ, List.set_cons_zero, List.set_cons_succ, Option.join_some, Option.join_none, Option.map_some, List.all_cons, List.all_nil, Value.oneCell', reduceIte, reduceCtorEq, Nat.reduceEqDiff, Nat.reduceAdd, Nat.reduceMul, Nat.reduceLT, Nat.reduceBEq, Nat.reduceLeDiff, Nat.reduceSub, List.size_toArray] -- r13
        refine ⟨_, _, refAllowed_f n l k1 k2 k3 a b hn (by omega) hok.2.1 (by omega) (sees0 rfl (of_decide_eq_true rfl)) (Rd.hq rfl rfl), ?_⟩
        simp -implicitDefEqProofs (disch := first | decide | exact of_eq_true (eq_true rfl) | omega) only [hal,  ↓vcD, vcE, evs, evP, evB, intsOf, fillC, Value.cells, pt, List.append_nil, List.nil_append, List.cons_append, List.length_cons, List.length_nil, List.filter_nil, List.map_nil, ↓List.getElem?_cons_zero, ↓List.getElem?_cons_succ, List.getElem?_cons_zero, List.getElem?_cons_succ, List.set_cons_zero, List.set_cons_succ, Option.join_some, Option.join_none, Option.map_some, List.all_cons, List.all_nil, Value.oneCell', reduceIte, reduceCtorEq, Nat.reduceEqDiff, Nat.reduceAdd, Nat.reduceMul, Nat.reduceLT, Nat.reduceBEq, Nat.reduceLeDiff, Nat.reduceSub, List.size_toArray]
        refine ITri.cond (v := false) rfl (fun h => by cases h) (fun _ => ?_)
        refine ITri.skip ?_; simp only [SeqQ_normal, BlkQ_normal]
        refine ITri.reg pok ?_; simp -implicitDefEqProofs (disch := first | decide | exact of_eq_true (eq_true rfl) | omega) only [ ↓vcD, vcE, evs, evP, evB, intsOf, fillC, Value.cells, pt, List.append_nil, List.nil_append, List.cons_append, List.length_cons, List.length_nil, List.filter_nil, List.map_nil, ↓List.getElem?_cons_zero, ↓List.getElem?_cons_succ, List.getElem?_cons_zero, List.getElem?_cons_succ, List.set_cons_zero, List.set_cons_succ, Option.join_some, Option.join_none, Option.map_some, List.all_cons, List.all_nil, Value.oneCell', reduceIte, reduceCtorEq, Nat.reduceEqDiff, Nat.reduceAdd, Nat.reduceMul, Nat.reduceLT, Nat.reduceBEq, Nat.reduceLeDiff, Nat.reduceSub, List.size_toArray] -- r11 ref.go:134
        refine LoopQ.next (b + 1) ⟨by omega, by omega, fun t q1 q2 q3 => ?_⟩ (by omega) (Wk.gc [0, 1, 2, 3] [] (of_decide_eq_true rfl) (of_decide_eq_true rfl) rfl rfl (of_decide_eq_true rfl) rfl rfl (fun _ h => by cases h) rfl (by simp -implicitDefEqProofs (disch := first | decide | exact of_eq_true (eq_true rfl) | omega) only [objOK, sgL, xiL, objAt, nilO, OM, mvL, mv, mvS, okS, okP, mvL_rows, okML, okM, okML_rows, List.getElem?_cons_zero, Option.getD_some, implies_true, imp_self, ne_eq, and_self, ↓vcD, vcE, evs, evP, evB, intsOf, fillC, Value.cells, pt, List.append_nil, List.nil_append, List.cons_append, List.length_cons, List.length_nil, List.filter_nil, List.map_nil, ↓List.getElem?_cons_zero, ↓List.getElem?_cons_succ, List.getElem?_cons_zero, List.getElem?_cons_succ, List.set_cons_zero, List.set_cons_succ, Option.join_some, Option.join_none, Option.map_some, List.all_cons, List.all_nil, Value.oneCell', reduceIte, reduceCtorEq, Nat.reduceEqDiff, Nat.reduceAdd, Nat.reduceMul, Nat.reduceLT, Nat.reduceBEq, Nat.reduceLeDiff, Nat.reduceSub, List.size_toArray]) (by simp -implicitDefEqProofs (disch := first | decide | exact of_eq_true (eq_true rfl) | omega) only [ valOK, sgL, xiL, mv, mvA, mvL, mvS, okS, okP, okM, okMA, okML, Option.getD_some, implies_true, and_self, Int.natCast_add, Int.cast_ofNat_Int, ↓vcD, vcE, evs, evP, evB, intsOf, fillC, Value.cells, pt, List.append_nil, List.nil_append, List.cons_append, List.length_cons, List.length_nil, List.filter_nil, List.map_nil, ↓List.getElem?_cons_zero, ↓List.getElem?_cons_succ, List.getElem?_cons_zero, List.getElem?_cons_succ, List.set_cons_zero, List.set_cons_succ, Option.join_some, Option.join_none, Option.map_some, List.all_cons, List.all_nil, Value.oneCell', reduceIte, reduceCtorEq, Nat.reduceEqDiff, Nat.reduceAdd, Nat.reduceMul, Nat.reduceLT, Nat.reduceBEq, Nat.reduceLeDiff, Nat.reduceSub, List.size_toArray]) (fun _ h => by cases h) ⟨rfl, fun _ h => by cases h⟩)
        by_cases ht : t < b
        · exact hb3 t q1 ht q3
        · obtain rfl : t = b := by omega
          exact fun h => by rw [hal] at h; cases h
      | true =>
        refine ITri.draw pok ?_; simp -implicitDefEqProofs (disch := first | decide | exact of_eq_true (eq_true rfl) | omega) only [ ↓vcD, vcE, evs, evP, evB, intsOf, fillC, Value.cells, pt, List.append_nil, List.nil_append, List.cons_append, List.length_cons, List.length_nil, List.filter_nil, List.map_nil, ↓List.getElem?_cons_zero, ↓List.getElem?_cons_succ, List.getElem?_cons_zero, List.getElem?_cons_succ, List.set_cons_zero, List.set_cons_succ, Option.join_some, Option.join_none, Option.map_some, List.all_cons, List.all_nil, Value.oneCell', reduceIte, reduceCtorEq, Nat.reduceEqDiff, Nat.reduceAdd, Nat.reduceMul, Nat.reduceLT, Nat.reduceBEq, Nat.reduceLeDiff, Nat.reduceSub, List.size_toArray] -- r13
        refine ⟨_, _, refAllowed_f n l k1 k2 k3 a b hn (by omega) hok.2.1 (by omega) (sees0 rfl (of_decide_eq_true rfl)) (Rd.hq rfl rfl), ?_⟩
        simp -implicitDefEqProofs (disch := first | decide | exact of_eq_true (eq_true rfl) | omega) only [hal, getI,  ↓vcD, vcE, evs, evP, evB, intsOf, fillC, Value.cells, pt, List.append_nil, List.nil_append, List.cons_append, List.length_cons, List.length_nil, List.filter_nil, List.map_nil, ↓List.getElem?_cons_zero, ↓List.getElem?_cons_succ, List.getElem?_cons_zero, List.getElem?_cons_succ, List.set_cons_zero, List.set_cons_succ, Option.join_some, Option.join_none, Option.map_some, List.all_cons, List.all_nil, Value.oneCell', reduceIte, reduceCtorEq, Nat.reduceEqDiff, Nat.reduceAdd, Nat.reduceMul, Nat.reduceLT, Nat.reduceBEq, Nat.reduceLeDiff, Nat.reduceSub, List.size_toArray]
        refine ⟨_, _, refValue_f n l a b hn (by omega) hok.2.1 (by omega) (by omega) (sees0 rfl (of_decide_eq_true rfl)) (Rd.hq rfl rfl), ?_⟩
        simp -implicitDefEqProofs (disch := first | decide | exact of_eq_true (eq_true rfl) | omega) only [getI,  ↓vcD, vcE, evs, evP, evB, intsOf, fillC, Value.cells, pt, List.append_nil, List.nil_append, List.cons_append, List.length_cons, List.length_nil, List.filter_nil, List.map_nil, ↓List.getElem?_cons_zero, ↓List.getElem?_cons_succ, List.getElem?_cons_zero, List.getElem?_cons_succ, List.set_cons_zero, List.set_cons_succ, Option.join_some, Option.join_none, Option.map_some, List.all_cons, List.all_nil, Value.oneCell', reduceIte, reduceCtorEq, Nat.reduceEqDiff, Nat.reduceAdd, Nat.reduceMul, Nat.reduceLT, Nat.reduceBEq, Nat.reduceLeDiff, Nat.reduceSub, List.size_toArray]
        refine ITri.condD (by rfl) (fun h7 => ?_) (fun h7 => ?_)
        · refine ITri.seq ?_
          refine ITri.reg pok ?_; simp -implicitDefEqProofs (disch := first | decide | exact of_eq_true (eq_true rfl) | omega) only [ ↓vcD, vcE, evs, evP, evB, intsOf, fillC, Value.cells, pt, List.append_nil, List.nil_append, List.cons_append, List.length_cons, List.length_nil, List.filter_nil, List.map_nil, ↓List.getElem?_cons_zero, ↓List.getElem?_cons_succ, List.getElem?_cons_zero, List.getElem?_cons_succ, List.set_cons_zero, List.set_cons_succ, Option.join_some, Option.join_none, Option.map_some, List.all_cons, List.all_nil, Value.oneCell', reduceIte, reduceCtorEq, Nat.reduceEqDiff, Nat.reduceAdd, Nat.reduceMul, Nat.reduceLT, Nat.reduceBEq, Nat.reduceLeDiff, Nat.reduceSub, List.size_toArray] -- r14 ref.go:137
          refine ITri.ret ?_; exact EndR.plain (by simp) (by rfl) (by
            rw [hfail fun h => ?_]
            · rfl
            · have := h.2.2 b hb1 h6 hal
              omega) (by rfl)
        refine ITri.skip ?_; simp only [SeqQ_normal, BlkQ_normal]
        refine ITri.reg pok ?_; simp -implicitDefEqProofs (disch := first | decide | exact of_eq_true (eq_true rfl) | omega) only [ ↓vcD, vcE, evs, evP, evB, intsOf, fillC, Value.cells, pt, List.append_nil, List.nil_append, List.cons_append, List.length_cons, List.length_nil, List.filter_nil, List.map_nil, ↓List.getElem?_cons_zero, ↓List.getElem?_cons_succ, List.getElem?_cons_zero, List.getElem?_cons_succ, List.set_cons_zero, List.set_cons_succ, Option.join_some, Option.join_none, Option.map_some, List.all_cons, List.all_nil, Value.oneCell', reduceIte, reduceCtorEq, Nat.reduceEqDiff, Nat.reduceAdd, Nat.reduceMul, Nat.reduceLT, Nat.reduceBEq, Nat.reduceLeDiff, Nat.reduceSub, List.size_toArray] -- r11 ref.go:134
        refine LoopQ.next (b + 1) ⟨by omega, by omega, fun t q1 q2 q3 => ?_⟩ (by omega) (Wk.gc [0, 1, 2, 3] [] (of_decide_eq_true rfl) (of_decide_eq_true rfl) rfl rfl (of_decide_eq_true rfl) rfl rfl (fun _ h => by cases h) rfl (by simp -implicitDefEqProofs (disch := first | decide | exact of_eq_true (eq_true rfl) | omega) only [objOK, sgL, xiL, objAt, nilO, OM, mvL, mv, mvS, okS, okP, mvL_rows, okML, okM, okML_rows, List.getElem?_cons_zero, Option.getD_some, implies_true, imp_self, ne_eq, and_self, ↓vcD, vcE, evs, evP, evB, intsOf, fillC, Value.cells, pt, List.append_nil, List.nil_append, List.cons_append, List.length_cons, List.length_nil, List.filter_nil, List.map_nil, ↓List.getElem?_cons_zero, ↓List.getElem?_cons_succ, List.getElem?_cons_zero, List.getElem?_cons_succ, List.set_cons_zero, List.set_cons_succ, Option.join_some, Option.join_none, Option.map_some, List.all_cons, List.all_nil, Value.oneCell', reduceIte, reduceCtorEq, Nat.reduceEqDiff, Nat.reduceAdd, Nat.reduceMul, Nat.reduceLT, Nat.reduceBEq, Nat.reduceLeDiff, Nat.reduceSub, List.size_toArray]) (by simp -implicitDefEqProofs (disch := first | decide | exact of_eq_true (eq_true rfl) | omega) only [ valOK, sgL, xiL, mv, mvA, mvL, mvS, okS, okP, okM, okMA, okML, Option.getD_some, implies_true, and_self, Int.natCast_add, Int.cast_ofNat_Int, ↓vcD, vcE, evs, evP, evB, intsOf, fillC, Value.cells, pt, List.append_nil, List.nil_append, List.cons_append, List.length_cons, List.length_nil, List.filter_nil, List.map_nil, ↓List.getElem?_cons_zero, ↓List.getElem?_cons_succ, List.getElem?_cons_zero, List.getElem?_cons_succ, List.set_cons_zero, List.set_cons_succ, Option.join_some, Option.join_none, Option.map_some, List.all_cons, List.all_nil, Value.oneCell', reduceIte, reduceCtorEq, Nat.reduceEqDiff, Nat.reduceAdd, Nat.reduceMul, Nat.reduceLT, Nat.reduceBEq, Nat.reduceLeDiff, Nat.reduceSub, List.size_toArray]) (fun _ h => by cases h) ⟨rfl, fun _ h => by cases h⟩)
        by_cases ht : t < b
        · exact hb3 t q1 ht q3
        · obtain rfl : t = b := by omega
          exact fun _ => by omega
    refine ITri.exit ?_; try simp -implicitDefEqProofs (disch := first | decide | exact of_eq_true (eq_true rfl) | omega) only [ ↓vcD, vcE, evs, evP, evB, intsOf, fillC, Value.cells, pt, List.append_nil, List.nil_append, List.cons_append, List.length_cons, List.length_nil, List.filter_nil, List.map_nil, ↓List.getElem?_cons_zero, ↓List.getElem?_cons_succ, List.getElem?_cons_zero, List.getElem?_cons_succ, List.set_cons_zero, List.set_cons_succ, Option.join_some, Option.join_none, Option.map_some, List.all_cons, List.all_nil, Value.oneCell', reduceIte, reduceCtorEq, Nat.reduceEqDiff, Nat.reduceAdd, Nat.reduceMul, Nat.reduceLT, Nat.reduceBEq, Nat.reduceLeDiff, Nat.reduceSub, List.size_toArray]
    refine ITri.reg pok ?_; simp -implicitDefEqProofs (disch := first | decide | exact of_eq_true (eq_true rfl) | omega) only [ ↓vcD, vcE, evs, evP, evB, intsOf, fillC, Value.cells, pt, List.append_nil, List.nil_append, List.cons_append, List.length_cons, List.length_nil, List.filter_nil, List.map_nil, ↓List.getElem?_cons_zero, ↓List.getElem?_cons_succ, List.getElem?_cons_zero, List.getElem?_cons_succ, List.set_cons_zero, List.set_cons_succ, Option.join_some, Option.join_none, Option.map_some, List.all_cons, List.all_nil, Value.oneCell', reduceIte, reduceCtorEq, Nat.reduceEqDiff, Nat.reduceAdd, Nat.reduceMul, Nat.reduceLT, Nat.reduceBEq, Nat.reduceLeDiff, Nat.reduceSub, List.size_toArray] -- r6 ref.go:130
    refine LoopQ.next (a + 1) ⟨by omega, fun f hf => ?_⟩ (by omega) (Wk.sub ⟨rfl, rfl, rfl, rfl, rfl, trivial⟩)
    by_cases hfa : f < a
    · exact hpre f hfa
    · obtain rfl : f = a := by omega
      refine ⟨h4', fun h => ?_, fun t q1 q2 => hb3 t q1 (by omega) q2⟩
      rcases h5 with h5 | h5
      · exact absurd h h5
      · omega
  refine ITri.exit ?_; try simp -implicitDefEqProofs (disch := first | decide | exact of_eq_true (eq_true rfl) | omega) only [ ↓vcD, vcE, evs, evP, evB, intsOf, fillC, Value.cells, pt, List.append_nil, List.nil_append, List.cons_append, List.length_cons, List.length_nil, List.filter_nil, List.map_nil, ↓List.getElem?_cons_zero, ↓List.getElem?_cons_succ, List.getElem?_cons_zero, List.getElem?_cons_succ, List.set_cons_zero, List.set_cons_succ, Option.join_some, Option.join_none, Option.map_some, List.all_cons, List.all_nil, Value.oneCell', reduceIte, reduceCtorEq, Nat.reduceEqDiff, Nat.reduceAdd, Nat.reduceMul, Nat.reduceLT, Nat.reduceBEq, Nat.reduceLeDiff, Nat.reduceSub, List.size_toArray]
  refine ITri.seq ?_
  refine ITri.reg pok ?_; simp -implicitDefEqProofs (disch := first | decide | exact of_eq_true (eq_true rfl) | omega) only [ ↓vcD, vcE, evs, evP, evB, intsOf, fillC, Value.cells, pt, List.append_nil, List.nil_append, List.cons_append, List.length_cons, List.length_nil, List.filter_nil, List.map_nil, ↓List.getElem?_cons_zero, ↓List.getElem?_cons_succ, List.getElem?_cons_zero, List.getElem?_cons_succ, List.set_cons_zero, List.set_cons_succ, Option.join_some, Option.join_none, Option.map_some, List.all_cons, List.all_nil, Value.oneCell', reduceIte, reduceCtorEq, Nat.reduceEqDiff, Nat.reduceAdd, Nat.reduceMul, Nat.reduceLT, Nat.reduceBEq, Nat.reduceLeDiff, Nat.reduceSub, List.size_toArray] -- r15 ref.go:141
  refine ITri.ret ?_; exact EndR.plain (by simp) (by rfl) (by rw [(rp_pv hc).2 ⟨by omega, fun f hf => hpre f (by omega)⟩]; rfl) (by rfl)

theorem refProves_f (n : Nat) (l : List St) (k1 k2 k3 : Int) (nb : Nat) (bd : List Int) (hn : l.length = n) (hnb : bd.length = nb) (hc : checkF l (k1, k2, k3) = 0) {h : AH} {s t : Value} (h0 : h.sees 0 = true) (r : Rd h s n (rows eII l)) (r2 : Rd h t nb (rows eI bd)) :
    Fc Try.prog 35 [s, sawV k1 k2 k3, t] h (.bool (provesF l k1 k2 k3 bd)) h :=
  Fc.lift2 (mk := fun ss => ss.take 1 ++ [sawV k1 k2 k3] ++ ss.drop 1) (mkv := fun _ => .bool (provesF l k1 k2 k3 bd)) (os := []) (fun c d => refProves_c n c l k1 k2 k3 nb d bd hn hnb hc) (MkL.split rfl) (MkV.const rfl) (rows_no (f := eII) l) (rows_no (f := eI) bd) (fun o ho => by cases ho) h0 r r2
end Go.Proofs.Ytlkfcbdbieenhaa
