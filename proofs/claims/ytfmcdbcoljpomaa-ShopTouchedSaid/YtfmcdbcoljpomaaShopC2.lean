/-
  Chapter 11, by names: the first touch from a time on.
-/
import Derived.Test.YtfmcdbcoljpomaaShopC1
set_option linter.unusedSimpArgs false
set_option linter.unusedVariables false
namespace Go.Proofs.Ytfmcdbcoljpomaa
open Go.RowKit Go.Vm
set_option maxRecDepth 100000
/- slices.BinarySearchFunc[[]boule/api.Touch,boule/api.Touch,int] · slots 49 · names 0:x 1:target 2:cmp 3:x 4:target 5:cmp 8:n 9:i 10:j 11:h · results [6, 7] -/
def ir59_r0 : IC := .reg [⟨some 6, none, false, .mv (.k (.int .i64 0))⟩,
  ⟨some 7, none, false, .mv (.k (.bool false))⟩] (some [0, 1, 2])
def ir59_r1 : IC := .reg [⟨some 12, none, false, .mv (.t 0)⟩,
  ⟨some 13, none, false, .len (.t 12)⟩,
  ⟨some 8, none, false, .mv (.t 13)⟩] (some [0, 1, 2, 8])
def ir59_r2 : IC := .reg [⟨some 14, none, false, .mv (.t 8)⟩,
  ⟨some 9, none, false, .mv (.k (.int .i64 0))⟩,
  ⟨some 10, none, false, .mv (.t 14)⟩] (some [0, 1, 2, 8, 9, 10])
def ir59_r3 : IC := .reg [⟨some 15, none, false, .mv (.t 9)⟩,
  ⟨some 16, none, false, .mv (.t 10)⟩,
  ⟨some 17, none, false, .cmp .lss (.t 15) (.t 16)⟩] (some [0, 1, 2, 8, 9, 10, 17])
def ir59_1 : IC := .cond (.t 17) .skip (.exit 0)
def ir59_2 : IC := .seq ir59_r3 ir59_1
def ir59_r4 : IC := .reg [⟨some 18, none, false, .mv (.t 9)⟩,
  ⟨some 19, none, false, .mv (.t 10)⟩,
  ⟨some 20, none, false, .ar .add (.t 18) (.t 19)⟩,
  ⟨some 21, none, false, .conv .u64 (.t 20)⟩,
  ⟨some 22, none, false, .shf .shr (.t 21) (.k (.int .u64 1))⟩,
  ⟨some 23, none, false, .conv .i64 (.t 22)⟩,
  ⟨some 11, none, false, .mv (.t 23)⟩] (some [0, 1, 2, 8, 9, 10, 11])
def ir59_r5 : IC := .reg [⟨some 24, none, false, .mv (.t 2)⟩,
  ⟨some 25, none, false, .mv (.t 0)⟩,
  ⟨some 26, none, false, .mv (.t 11)⟩,
  ⟨some 27, none, false, .iad 3 (.t 25) (.t 26)⟩,
  ⟨some 28, none, false, .lda 3 (.t 27)⟩,
  ⟨some 29, none, false, .mv (.t 1)⟩,
  ⟨some 30, none, false, .call (.t 24) [(.t 28), (.t 29)]⟩,
  ⟨some 31, none, false, .cmp .lss (.t 30) (.k (.int .i64 0))⟩] (some [0, 1, 2, 8, 9, 10, 11, 31])
def ir59_r6 : IC := .reg [⟨some 32, none, false, .mv (.t 11)⟩,
  ⟨some 33, none, false, .ar .add (.t 32) (.k (.int .i64 1))⟩,
  ⟨some 9, none, false, .mv (.t 33)⟩] (some [0, 1, 2, 8, 9, 10])
def ir59_r7 : IC := .reg [⟨some 34, none, false, .mv (.t 11)⟩,
  ⟨some 10, none, false, .mv (.t 34)⟩] (some [0, 1, 2, 8, 9, 10])
def ir59_3 : IC := .cond (.t 31) ir59_r6 ir59_r7
def ir59_4 : IC := .seq ir59_r5 ir59_3
def ir59_5 : IC := .seq ir59_r4 ir59_4
def ir59_6 : IC := .block 1 ir59_5
def ir59_7 : IC := .seq ir59_2 ir59_6
def ir59_8 : IC := .loop ir59_7
def ir59_9 : IC := .block 0 ir59_8
def ir59_r8 : IC := .reg [⟨some 35, none, false, .mv (.t 9)⟩,
  ⟨some 36, none, false, .mv (.t 9)⟩,
  ⟨some 37, none, false, .mv (.t 8)⟩,
  ⟨some 38, none, false, .cmp .lss (.t 36) (.t 37)⟩,
  ⟨some 39, none, false, .mv (.t 38)⟩,
  ⟨some 40, some (39, true), false, .mv (.t 2)⟩,
  ⟨some 41, some (39, true), false, .mv (.t 0)⟩,
  ⟨some 42, some (39, true), false, .mv (.t 9)⟩,
  ⟨some 43, some (39, true), false, .iad 3 (.t 41) (.t 42)⟩,
  ⟨some 44, some (39, true), false, .lda 3 (.t 43)⟩,
  ⟨some 45, some (39, true), false, .mv (.t 1)⟩,
  ⟨some 46, some (39, true), false, .call (.t 40) [(.t 44), (.t 45)]⟩,
  ⟨some 47, some (39, true), false, .cmp .eql (.t 46) (.k (.int .i64 0))⟩,
  ⟨some 48, none, false, .pick (.t 39) (.t 47) (.k (.bool false))⟩,
  ⟨some 6, none, false, .mv (.t 35)⟩,
  ⟨some 7, none, false, .mv (.t 48)⟩] (some [6, 7])
def ir59_10 : IC := .seq ir59_r8 .ret
def ir59_11 : IC := .seq ir59_9 ir59_10
def ir59_12 : IC := .seq ir59_r2 ir59_11
def ir59_13 : IC := .seq ir59_r1 ir59_12
def ir59_14 : IC := .seq ir59_r0 ir59_13
def ir59 : IC := ir59_14
theorem fn59 : FnIs Try.prog 59 ir59 49 [.tmp 6, .tmp 7] := ⟨Try.f59, Try.f59.body.getD .skip, Try.func59, by kernel_rfl, by kernel_rfl, by kernel_rfl, by kernel_rfl⟩
/- boule/shop.Taint$1 · slots 9 · names 0:x 1:t 2:x 3:t · results [4] -/
def ir60_r0 : IC := .reg [⟨some 2, none, false, .box (.t 0)⟩,
  ⟨some 4, none, false, .mv (.k (.int .i64 0))⟩] (some [1, 2])
def ir60_r1 : IC := .reg [⟨some 5, none, false, .fad 0 (.t 2)⟩,
  ⟨some 6, none, false, .ldc (.t 5)⟩,
  ⟨some 7, none, false, .mv (.t 1)⟩,
  ⟨some 8, none, false, .ar .sub (.t 6) (.t 7)⟩,
  ⟨some 4, none, false, .mv (.t 8)⟩] (some [4])
def ir60_1 : IC := .seq ir60_r1 .ret
def ir60_2 : IC := .seq ir60_r0 ir60_1
def ir60 : IC := ir60_2
theorem fn60 : FnIs Try.prog 60 ir60 9 [.tmp 4] := ⟨Try.f60, Try.f60.body.getD .skip, Try.func60, by kernel_rfl, by kernel_rfl, by kernel_rfl, by kernel_rfl⟩
abbrev cV (x : Tc) : Value := .agg ⟨[.int .i64 x.1, .int .i64 x.2.1, .int .i64 x.2.2]⟩
theorem behind_f (x : Tc) (t : Int) (h1 : 0 ≤ x.1 ∧ x.1 ≤ 100000000) (h2 : 0 ≤ t ∧ t ≤ 100000000) {h : AH} (hs : h.sees 0 = true) : Fc Try.prog 60 [cV x, .int .i64 t] h (.int .i64 (x.1 - t)) h := by
  refine Fc.lift0 ?_ rfl rfl hs
  refine Fc.intro0 fn60 (by simp) rfl rfl ?_; simp only [argF]
  refine ITri.seq ?_
  refine ITri.reg pokT ?_; simp -implicitDefEqProofs (disch := first | decide | exact of_eq_true (eq_true rfl) | omega | assumption) only [ ↓vcD, vcE, evs, evP, evB, intsOf, fillC, Value.cells, pt, List.append_nil, List.nil_append, List.cons_append, List.length_cons, List.length_nil, List.filter_nil, List.map_nil, ↓List.getElem?_cons_zero, ↓List.getElem?_cons_succ, List.getElem?_cons_zero, List.getElem?_cons_succ, List.set_cons_zero, List.set_cons_succ, Option.join_some, Option.join_none, Option.map_some, List.all_cons, List.all_nil, Value.oneCell', reduceIte, reduceCtorEq, Nat.reduceEqDiff, Nat.reduceAdd, Nat.reduceMul, Nat.reduceLT, Nat.reduceBEq, Nat.reduceLeDiff, Nat.reduceSub, List.size_toArray]
  refine ITri.seq ?_
  refine ITri.reg pokT ?_; simp -implicitDefEqProofs (disch := first | decide | exact of_eq_true (eq_true rfl) | omega | assumption) only [ ↓vcD, vcE, evs, evP, evB, intsOf, fillC, Value.cells, pt, List.append_nil, List.nil_append, List.cons_append, List.length_cons, List.length_nil, List.filter_nil, List.map_nil, ↓List.getElem?_cons_zero, ↓List.getElem?_cons_succ, List.getElem?_cons_zero, List.getElem?_cons_succ, List.set_cons_zero, List.set_cons_succ, Option.join_some, Option.join_none, Option.map_some, List.all_cons, List.all_nil, Value.oneCell', reduceIte, reduceCtorEq, Nat.reduceEqDiff, Nat.reduceAdd, Nat.reduceMul, Nat.reduceLT, Nat.reduceBEq, Nat.reduceLeDiff, Nat.reduceSub, List.size_toArray]
  refine ITri.ret ?_; exact EndR.plain (by simp) (by rfl) (by rfl) (by rfl)
theorem find_c (n c st : Nat) (l : List Tc) (t : Int) (hl : l.length = n) (hb : n ≤ 500) (h2 : 0 ≤ t ∧ t ≤ 100000000) (ha : ∀ q, q < n → 0 ≤ (nth l q).1 ∧ (nth l q).1 ≤ 100000000) (hn : st ≤ n) (hlo : ∀ q, q < st → (nth l q).1 < t) (hhi : ∀ q, st ≤ q → q < n → t ≤ (nth l q).1) :
    Fc Try.prog 59 [.slice (some ⟨1, 0, none⟩) n c, .int .i64 t, .func (.func 60) #[] #[]] (Hp 2 [none, some (.cells ⟨rows eC l, 0, false⟩)]) (.tuple #[.int .i64 st, .bool (decide (st < n) && decide ((nth l st).1 - t = 0))]) (Hp 2 [none, some (.cells ⟨rows eC l, 0, false⟩)]) := by
  refine Fc.intro0 fn59 (by simp) rfl rfl ?_; simp only [argF]
  have htk : ∀ q, q < n → takeC (rows eC l) (q * 3) 3 = some [.int .i64 (nth l q).1, .int .i64 (nth l q).2.1, .int .i64 (nth l q).2.2] := fun q hq => rows_takeC (f := eC) (by omega)
  refine ITri.seq ?_
  refine ITri.reg pokT ?_; simp -implicitDefEqProofs (disch := first | decide | exact of_eq_true (eq_true rfl) | omega | assumption) only [ ↓vcD, vcE, evs, evP, evB, intsOf, fillC, Value.cells, pt, List.append_nil, List.nil_append, List.cons_append, List.length_cons, List.length_nil, List.filter_nil, List.map_nil, ↓List.getElem?_cons_zero, ↓List.getElem?_cons_succ, List.getElem?_cons_zero, List.getElem?_cons_succ, List.set_cons_zero, List.set_cons_succ, Option.join_some, Option.join_none, Option.map_some, List.all_cons, List.all_nil, Value.oneCell', reduceIte, reduceCtorEq, Nat.reduceEqDiff, Nat.reduceAdd, Nat.reduceMul, Nat.reduceLT, Nat.reduceBEq, Nat.reduceLeDiff, Nat.reduceSub, List.size_toArray] -- r0
  refine ITri.seq ?_
  refine ITri.reg pokT ?_; simp -implicitDefEqProofs (disch := first | decide | exact of_eq_true (eq_true rfl) | omega | assumption) only [ ↓vcD, vcE, evs, evP, evB, intsOf, fillC, Value.cells, pt, List.append_nil, List.nil_append, List.cons_append, List.length_cons, List.length_nil, List.filter_nil, List.map_nil, ↓List.getElem?_cons_zero, ↓List.getElem?_cons_succ, List.getElem?_cons_zero, List.getElem?_cons_succ, List.set_cons_zero, List.set_cons_succ, Option.join_some, Option.join_none, Option.map_some, List.all_cons, List.all_nil, Value.oneCell', reduceIte, reduceCtorEq, Nat.reduceEqDiff, Nat.reduceAdd, Nat.reduceMul, Nat.reduceLT, Nat.reduceBEq, Nat.reduceLeDiff, Nat.reduceSub, List.size_toArray] -- r1
  refine ITri.seq ?_
  refine ITri.reg pokT ?_; simp -implicitDefEqProofs (disch := first | decide | exact of_eq_true (eq_true rfl) | omega | assumption) only [ ↓vcD, vcE, evs, evP, evB, intsOf, fillC, Value.cells, pt, List.append_nil, List.nil_append, List.cons_append, List.length_cons, List.length_nil, List.filter_nil, List.map_nil, ↓List.getElem?_cons_zero, ↓List.getElem?_cons_succ, List.getElem?_cons_zero, List.getElem?_cons_succ, List.set_cons_zero, List.set_cons_succ, Option.join_some, Option.join_none, Option.map_some, List.all_cons, List.all_nil, Value.oneCell', reduceIte, reduceCtorEq, Nat.reduceEqDiff, Nat.reduceAdd, Nat.reduceMul, Nat.reduceLT, Nat.reduceBEq, Nat.reduceLeDiff, Nat.reduceSub, List.size_toArray] -- r2
  refine ITri.seq ?_
  refine ITri.block ?_ -- 0
  refine ITri.loop (fun p : Nat × Nat => [(0, .slice (some ⟨1, 0, none⟩) n c), (1, .int .i64 t), (2, .func (.func 60) #[] #[]), (8, .int .i64 n), (9, .int .i64 p.1), (10, .int .i64 p.2)]) (fun _ => []) (fun p => Hp 2 [none, some (.cells ⟨rows eC l, 0, false⟩)]) (fun p => p.1 ≤ st ∧ st ≤ p.2 ∧ p.2 ≤ n) (fun p => p.2 - p.1) (0, n) ⟨Nat.zero_le _, hn, Nat.le_refl _⟩ (Wk.sub ⟨rfl, rfl, rfl, rfl, rfl, rfl, trivial⟩) fun p hp => ?_
  obtain ⟨i, j⟩ := p
  obtain ⟨hi, hj, hjn⟩ := hp
  simp only at hi hj hjn
  refine ITri.seq ?_
  refine ITri.seq ?_
  refine ITri.reg pokT ?_; simp -implicitDefEqProofs (disch := first | decide | exact of_eq_true (eq_true rfl) | omega | assumption) only [ ↓vcD, vcE, evs, evP, evB, intsOf, fillC, Value.cells, pt, List.append_nil, List.nil_append, List.cons_append, List.length_cons, List.length_nil, List.filter_nil, List.map_nil, ↓List.getElem?_cons_zero, ↓List.getElem?_cons_succ, List.getElem?_cons_zero, List.getElem?_cons_succ, List.set_cons_zero, List.set_cons_succ, Option.join_some, Option.join_none, Option.map_some, List.all_cons, List.all_nil, Value.oneCell', reduceIte, reduceCtorEq, Nat.reduceEqDiff, Nat.reduceAdd, Nat.reduceMul, Nat.reduceLT, Nat.reduceBEq, Nat.reduceLeDiff, Nat.reduceSub, List.size_toArray] -- r3
  refine ITri.condD (by rfl) (fun h3 => ?_) (fun h3 => ?_) -- %17
  · refine ITri.skip ?_; simp only [SeqQ_normal, BlkQ_normal]
    refine ITri.block ?_ -- 1
    refine ITri.seq ?_
    have hsh : shI .shr .u64 ((i : Int) + (j : Int)) 1 = (((i + j) / 2 : Nat) : Int) := by
      show Int.fdiv _ _ = _
      rw [Int.fdiv_eq_ediv_of_nonneg _ (by decide)]
      show ((i : Int) + (j : Int)) / 2 = _
      omega
    obtain ⟨m, hm⟩ : ∃ m, (i + j) / 2 = m := ⟨_, rfl⟩
    rw [hm] at hsh
    have hm1 : i ≤ m := by omega
    have hm2 : m < j := by omega
    have hmn : m < n := by omega
    have ham := ha m hmn
    have htm := htk m hmn
    refine ITri.reg pokT ?_; simp -implicitDefEqProofs (disch := first | decide | exact of_eq_true (eq_true rfl) | omega | assumption) only [hsh,  ↓vcD, vcE, evs, evP, evB, intsOf, fillC, Value.cells, pt, List.append_nil, List.nil_append, List.cons_append, List.length_cons, List.length_nil, List.filter_nil, List.map_nil, ↓List.getElem?_cons_zero, ↓List.getElem?_cons_succ, List.getElem?_cons_zero, List.getElem?_cons_succ, List.set_cons_zero, List.set_cons_succ, Option.join_some, Option.join_none, Option.map_some, List.all_cons, List.all_nil, Value.oneCell', reduceIte, reduceCtorEq, Nat.reduceEqDiff, Nat.reduceAdd, Nat.reduceMul, Nat.reduceLT, Nat.reduceBEq, Nat.reduceLeDiff, Nat.reduceSub, List.size_toArray] -- r4
    refine ITri.seq ?_
    refine ITri.reg pokT ?_; simp -implicitDefEqProofs (disch := first | decide | exact of_eq_true (eq_true rfl) | omega | assumption) only [htm,  ↓vcD, vcE, evs, evP, evB, intsOf, fillC, Value.cells, pt, List.append_nil, List.nil_append, List.cons_append, List.length_cons, List.length_nil, List.filter_nil, List.map_nil, ↓List.getElem?_cons_zero, ↓List.getElem?_cons_succ, List.getElem?_cons_zero, List.getElem?_cons_succ, List.set_cons_zero, List.set_cons_succ, Option.join_some, Option.join_none, Option.map_some, List.all_cons, List.all_nil, Value.oneCell', reduceIte, reduceCtorEq, Nat.reduceEqDiff, Nat.reduceAdd, Nat.reduceMul, Nat.reduceLT, Nat.reduceBEq, Nat.reduceLeDiff, Nat.reduceSub, List.size_toArray] -- r5
    refine ⟨_, _, behind_f (nth l m) t ham h2 (sees0 rfl (of_decide_eq_true rfl)), ?_⟩
    try simp -implicitDefEqProofs (disch := first | decide | exact of_eq_true (eq_true rfl) | omega | assumption) only [ ↓vcD, vcE, evs, evP, evB, intsOf, fillC, Value.cells, pt, List.append_nil, List.nil_append, List.cons_append, List.length_cons, List.length_nil, List.filter_nil, List.map_nil, ↓List.getElem?_cons_zero, ↓List.getElem?_cons_succ, List.getElem?_cons_zero, List.getElem?_cons_succ, List.set_cons_zero, List.set_cons_succ, Option.join_some, Option.join_none, Option.map_some, List.all_cons, List.all_nil, Value.oneCell', reduceIte, reduceCtorEq, Nat.reduceEqDiff, Nat.reduceAdd, Nat.reduceMul, Nat.reduceLT, Nat.reduceBEq, Nat.reduceLeDiff, Nat.reduceSub, List.size_toArray]
    refine ITri.condD (by rfl) (fun h4 => ?_) (fun h4 => ?_) -- %31
    · have hms : m < st := by
        rcases Nat.lt_or_ge m st with q | q
        · exact q
        · have := hhi m q hmn
          omega
      refine ITri.reg pokT ?_; simp -implicitDefEqProofs (disch := first | decide | exact of_eq_true (eq_true rfl) | omega | assumption) only [ ↓vcD, vcE, evs, evP, evB, intsOf, fillC, Value.cells, pt, List.append_nil, List.nil_append, List.cons_append, List.length_cons, List.length_nil, List.filter_nil, List.map_nil, ↓List.getElem?_cons_zero, ↓List.getElem?_cons_succ, List.getElem?_cons_zero, List.getElem?_cons_succ, List.set_cons_zero, List.set_cons_succ, Option.join_some, Option.join_none, Option.map_some, List.all_cons, List.all_nil, Value.oneCell', reduceIte, reduceCtorEq, Nat.reduceEqDiff, Nat.reduceAdd, Nat.reduceMul, Nat.reduceLT, Nat.reduceBEq, Nat.reduceLeDiff, Nat.reduceSub, List.size_toArray] -- r6
      refine LoopQ.next (m + 1, j) ?_ ?_ ?_
      · exact ⟨hms, hj, hjn⟩
      · show j - (m + 1) < j - i
        omega
      · exact Wk.sub ⟨rfl, rfl, rfl, rfl, rfl, rfl, trivial⟩
    · have hms : st ≤ m := by
        rcases Nat.lt_or_ge m st with q | q
        · have := hlo m q
          omega
        · exact q
      refine ITri.reg pokT ?_; simp -implicitDefEqProofs (disch := first | decide | exact of_eq_true (eq_true rfl) | omega | assumption) only [ ↓vcD, vcE, evs, evP, evB, intsOf, fillC, Value.cells, pt, List.append_nil, List.nil_append, List.cons_append, List.length_cons, List.length_nil, List.filter_nil, List.map_nil, ↓List.getElem?_cons_zero, ↓List.getElem?_cons_succ, List.getElem?_cons_zero, List.getElem?_cons_succ, List.set_cons_zero, List.set_cons_succ, Option.join_some, Option.join_none, Option.map_some, List.all_cons, List.all_nil, Value.oneCell', reduceIte, reduceCtorEq, Nat.reduceEqDiff, Nat.reduceAdd, Nat.reduceMul, Nat.reduceLT, Nat.reduceBEq, Nat.reduceLeDiff, Nat.reduceSub, List.size_toArray] -- r7
      refine LoopQ.next (i, m) ?_ ?_ ?_
      · exact ⟨hi, hms, by show m ≤ n; omega⟩
      · show m - i < j - i
        omega
      · exact Wk.sub ⟨rfl, rfl, rfl, rfl, rfl, rfl, trivial⟩
  refine ITri.exit ?_; try simp -implicitDefEqProofs (disch := first | decide | exact of_eq_true (eq_true rfl) | omega | assumption) only [ ↓vcD, vcE, evs, evP, evB, intsOf, fillC, Value.cells, pt, List.append_nil, List.nil_append, List.cons_append, List.length_cons, List.length_nil, List.filter_nil, List.map_nil, ↓List.getElem?_cons_zero, ↓List.getElem?_cons_succ, List.getElem?_cons_zero, List.getElem?_cons_succ, List.set_cons_zero, List.set_cons_succ, Option.join_some, Option.join_none, Option.map_some, List.all_cons, List.all_nil, Value.oneCell', reduceIte, reduceCtorEq, Nat.reduceEqDiff, Nat.reduceAdd, Nat.reduceMul, Nat.reduceLT, Nat.reduceBEq, Nat.reduceLeDiff, Nat.reduceSub, List.size_toArray]
  obtain rfl : i = st := by omega
  refine ITri.seq ?_
  by_cases hin : i < n
  · have hin2 : (i : Int) < n := by omega
    have ham := ha i hin
    have hti := htk i hin
    refine ITri.reg pokT ?_; simp -implicitDefEqProofs (disch := first | decide | exact of_eq_true (eq_true rfl) | omega | assumption) only [hin2, hti, decide_true,  ↓vcD, vcE, evs, evP, evB, intsOf, fillC, Value.cells, pt, List.append_nil, List.nil_append, List.cons_append, List.length_cons, List.length_nil, List.filter_nil, List.map_nil, ↓List.getElem?_cons_zero, ↓List.getElem?_cons_succ, List.getElem?_cons_zero, List.getElem?_cons_succ, List.set_cons_zero, List.set_cons_succ, Option.join_some, Option.join_none, Option.map_some, List.all_cons, List.all_nil, Value.oneCell', reduceIte, reduceCtorEq, Nat.reduceEqDiff, Nat.reduceAdd, Nat.reduceMul, Nat.reduceLT, Nat.reduceBEq, Nat.reduceLeDiff, Nat.reduceSub, List.size_toArray] -- r8
    refine ⟨_, _, behind_f (nth l i) t ham h2 (sees0 rfl (of_decide_eq_true rfl)), ?_⟩
    try simp -implicitDefEqProofs (disch := first | decide | exact of_eq_true (eq_true rfl) | omega | assumption) only [ ↓vcD, vcE, evs, evP, evB, intsOf, fillC, Value.cells, pt, List.append_nil, List.nil_append, List.cons_append, List.length_cons, List.length_nil, List.filter_nil, List.map_nil, ↓List.getElem?_cons_zero, ↓List.getElem?_cons_succ, List.getElem?_cons_zero, List.getElem?_cons_succ, List.set_cons_zero, List.set_cons_succ, Option.join_some, Option.join_none, Option.map_some, List.all_cons, List.all_nil, Value.oneCell', reduceIte, reduceCtorEq, Nat.reduceEqDiff, Nat.reduceAdd, Nat.reduceMul, Nat.reduceLT, Nat.reduceBEq, Nat.reduceLeDiff, Nat.reduceSub, List.size_toArray]
    refine ITri.ret ?_; exact EndR.plain (vs := [.int .i64 i, .bool (decide ((nth l i).1 - t = 0))]) (by simp) (by rfl) (by rw [decide_eq_true hin, Bool.true_and]; rfl) (by rfl)
  · have hin2 : ¬ (i : Int) < n := by omega
    refine ITri.reg pokT ?_; simp -implicitDefEqProofs (disch := first | decide | exact of_eq_true (eq_true rfl) | omega | assumption) only [hin2, decide_false,  ↓vcD, vcE, evs, evP, evB, intsOf, fillC, Value.cells, pt, List.append_nil, List.nil_append, List.cons_append, List.length_cons, List.length_nil, List.filter_nil, List.map_nil, ↓List.getElem?_cons_zero, ↓List.getElem?_cons_succ, List.getElem?_cons_zero, List.getElem?_cons_succ, List.set_cons_zero, List.set_cons_succ, Option.join_some, Option.join_none, Option.map_some, List.all_cons, List.all_nil, Value.oneCell', reduceIte, reduceCtorEq, Nat.reduceEqDiff, Nat.reduceAdd, Nat.reduceMul, Nat.reduceLT, Nat.reduceBEq, Nat.reduceLeDiff, Nat.reduceSub, List.size_toArray] -- r8
    refine ITri.ret ?_; exact EndR.plain (vs := [.int .i64 i, .bool false]) (by simp) (by rfl) (by rw [decide_eq_false hin, Bool.false_and]; rfl) (by rfl)
theorem find_f {n st : Nat} {l : List Tc} (t : Int) (hl : l.length = n) (hb : n ≤ 500) (h2 : 0 ≤ t ∧ t ≤ 100000000) (ha : ∀ q, q < n → 0 ≤ (nth l q).1 ∧ (nth l q).1 ≤ 100000000) (hn : st ≤ n) (hlo : ∀ q, q < st → (nth l q).1 < t) (hhi : ∀ q, st ≤ q → q < n → t ≤ (nth l q).1) {h : AH} {s : Value} (h0 : h.sees 0 = true) (r : Rd h s n (rows eC l)) :
    Fc Try.prog 59 [s, .int .i64 t, .func (.func 60) #[] #[]] h (.tuple #[.int .i64 st, .bool (decide (st < n) && decide ((nth l st).1 - t = 0))]) h :=
  Fc.lift1 (mk := fun ss => [] ++ ss ++ [.int .i64 t, .func (.func 60) #[] #[]]) (mkv := fun _ => .tuple #[.int .i64 st, .bool (decide (st < n) && decide ((nth l st).1 - t = 0))]) (os := []) (fun c => find_c n c st l t hl hb h2 ha hn hlo hhi) (MkL.mid rfl rfl) (MkV.const rfl) (rows_no (f := eC) l) (fun o ho => by cases ho) h0 r
end Go.Proofs.Ytfmcdbcoljpomaa
