/-
  Chapter 7 by names: the iterator over the blocks from a place on, with any rounds.
-/
import Derived.Test.YtlkfcbdbieenhaaCropP3
import Derived.Test.YtlkfcbdbieenhaaCropBM
set_option linter.unusedSimpArgs false
set_option linter.unusedVariables false
namespace Go.Proofs.Ytlkfcbdbieenhaa
open Go.RowKit Go.Vm
set_option maxRecDepth 100000

theorem comeF_pre {ws : List Int} {s1 : Int} {f j : Nat} : ∀ d, comeF ws s1 f j <+: comeF ws s1 f (j + d)
  | 0 => List.prefix_refl _
  | d + 1 => (comeF_pre d).trans (List.prefix_append _ _)
abbrev ydV (x : Yd) : List Value := [.agg #[.int .i64 x.1, .int .i64 x.2.1], .int .i64 x.2.2]
/- (boule/crop.boule).blocks$1 · slots 51 · names 0:yield 3:yield 4:least 5:to 6:n · results [] -/
def ir83_r0 : IC := .reg [⟨some 4, none, false, .mv (.k (.int .i64 1000))⟩] (some [0, 1, 2, 4])
def ir83_r1 : IC := .reg [⟨some 7, none, false, .ldc (.t 1)⟩,
  ⟨some 8, none, false, .ar .add (.t 7) (.k (.int .i64 1))⟩,
  ⟨some 5, none, false, .mv (.t 8)⟩] (some [0, 1, 2, 4, 5])
def ir83_r2 : IC := .reg [⟨some 9, none, false, .mv (.t 5)⟩,
  ⟨some 10, none, false, .ldc (.t 1)⟩,
  ⟨some 11, none, false, .fad 0 (.t 2)⟩,
  ⟨some 12, none, false, .fad 1 (.t 11)⟩,
  ⟨some 13, none, false, .ldc (.t 12)⟩,
  ⟨some 14, none, false, .ar .add (.t 10) (.t 13)⟩,
  ⟨some 15, none, false, .fad 3 (.t 2)⟩,
  ⟨some 16, none, false, .ldc (.t 15)⟩,
  ⟨some 17, none, false, .len (.t 16)⟩,
  ⟨some 18, none, false, .mm true [(.t 14), (.t 17)]⟩,
  ⟨some 19, none, false, .cmp .leq (.t 9) (.t 18)⟩] (some [0, 1, 2, 4, 5, 19])
def ir83_1 : IC := .cond (.t 19) .skip (.exit 0)
def ir83_2 : IC := .seq ir83_r2 ir83_1
def ir83_r4 : IC := .reg [⟨some 22, none, false, .mv (.t 4)⟩,
  ⟨some 23, none, false, .fad 3 (.t 2)⟩,
  ⟨some 24, none, false, .ldc (.t 23)⟩,
  ⟨some 25, none, false, .mv (.t 5)⟩,
  ⟨some 26, none, false, .ar .sub (.t 25) (.k (.int .i64 1))⟩,
  ⟨some 27, none, false, .iad 1 (.t 24) (.t 26)⟩,
  ⟨some 28, none, false, .ldc (.t 27)⟩,
  ⟨some 29, none, false, .mm true [(.t 22), (.t 28)]⟩,
  ⟨some 4, none, false, .mv (.t 29)⟩] (some [0, 1, 2, 4, 5])
def ir83_r5 : IC := .reg [⟨some 30, none, false, .mv (.t 4)⟩,
  ⟨some 31, none, false, .cmp .lss (.t 30) (.k (.int .i64 0))⟩] (some [0, 1, 2, 4, 5, 31])
def ir83_3 : IC := .cond (.t 31) .ret .skip
def ir83_4 : IC := .seq ir83_r5 ir83_3
def ir83_5 : IC := .seq ir83_r4 ir83_4
def ir83_r6 : IC := .reg [⟨some 32, none, false, .mv (.t 5)⟩,
  ⟨some 33, none, false, .ldc (.t 1)⟩,
  ⟨some 34, none, false, .ar .sub (.t 32) (.t 33)⟩,
  ⟨some 6, none, false, .mv (.t 34)⟩] (some [0, 1, 2, 4, 5, 6])
def ir83_r7 : IC := .reg [⟨some 35, none, false, .mv (.t 6)⟩,
  ⟨some 36, none, false, .fad 0 (.t 2)⟩,
  ⟨some 37, none, false, .fad 0 (.t 36)⟩,
  ⟨some 38, none, false, .ldc (.t 37)⟩,
  ⟨some 39, none, false, .cmp .geq (.t 35) (.t 38)⟩,
  ⟨some 40, none, false, .mv (.t 39)⟩,
  ⟨some 41, some (40, true), false, .mv (.t 0)⟩,
  ⟨some 42, some (40, true), false, .ldc (.t 1)⟩,
  ⟨some 43, some (40, true), false, .mv (.t 5)⟩,
  ⟨some 44, some (40, true), false, .bld [(.int .i64 0), (.int .i64 0)] [(0, 1, (.t 42)), (1, 1, (.t 43))]⟩,
  ⟨some 45, some (40, true), false, .mv (.t 6)⟩,
  ⟨some 46, some (40, true), false, .mv (.t 4)⟩,
  ⟨some 47, some (40, true), false, .ar .mul (.t 45) (.t 46)⟩,
  ⟨some 48, some (40, true), false, .call (.t 41) [(.t 44), (.t 47)]⟩,
  ⟨some 49, some (40, true), false, .not (.t 48)⟩,
  ⟨some 50, none, false, .pick (.t 40) (.t 49) (.k (.bool false))⟩] (some [0, 1, 2, 4, 5, 50])
def ir83_6 : IC := .cond (.t 50) .ret .skip
def ir83_7 : IC := .seq ir83_r7 ir83_6
def ir83_8 : IC := .seq ir83_r6 ir83_7
def ir83_9 : IC := .seq ir83_5 ir83_8
def ir83_10 : IC := .block 1 ir83_9
def ir83_r3 : IC := .reg [⟨some 20, none, false, .mv (.t 5)⟩,
  ⟨some 21, none, false, .ar .add (.t 20) (.k (.int .i64 1))⟩,
  ⟨some 5, none, false, .mv (.t 21)⟩] (some [0, 1, 2, 4, 5])
def ir83_11 : IC := .seq ir83_10 ir83_r3
def ir83_12 : IC := .seq ir83_2 ir83_11
def ir83_13 : IC := .loop ir83_12
def ir83_14 : IC := .block 0 ir83_13
def ir83_15 : IC := .seq ir83_r1 ir83_14
def ir83_16 : IC := .seq ir83_r0 ir83_15
def ir83 : IC := ir83_16
theorem fn83 : FnIs Try.prog 83 ir83 51 [] := ⟨Try.f83, Try.f83.body.getD .skip, Try.func83, by kernel_rfl, by kernel_rfl, by kernel_rfl, by kernel_rfl⟩
theorem blocks1_f (k F B Wn o0 cp : Nat) (ws : List Int) (s1 s2 s3 : Int) (N f : Nat) (H : Nat → AH) (Hs : AH) (m : Nat) (hs : 1 ≤ s1 ∧ s1 ≤ s2 ∧ s2 ≤ 600) (hN : ws.length = N) (hN3 : N ≤ 3000) (hf : f < N) (hw : ∀ x ∈ ws, -1 ≤ x ∧ x ≤ 1000)
    (hF : ∀ c, cellAt (H c) F 0 = some (.int .i64 f))
    (hB0 : ∀ c, cellAt (H c) B 0 = some (.int .i64 s1)) (hB1 : ∀ c, cellAt (H c) B 1 = some (.int .i64 s2)) (hB3 : ∀ c, cellAt (H c) B 3 = some (.slice (some ⟨Wn, o0, none⟩) N cp))
    (hW : ∀ c i, i < N → cellAt (H c) Wn (o0 + i) = some (.int .i64 (nth ws i))) (hk : ∀ c, (H c).sees k = true)
    (hm : m ≤ (yF ws s1 s2 f).length)
    (HT : ∀ i x, i < m → (yF ws s1 s2 f)[i]? = some x → Yl Try.prog k (ydV x) (H i) (.bool true) (H (i + 1)))
    (HX : ∀ x, (yF ws s1 s2 f)[m]? = some x → Yl Try.prog k (ydV x) (H m) (.bool false) Hs)
    (hg : (H 0).wlim ≤ (H 0).next → Grow (H 0) (if m < (yF ws s1 s2 f).length then Hs else H m)) :
    Fc Try.prog 83 [.func (.yield k) #[] #[], pt F, pt B] (H 0) (packV []) (if m < (yF ws s1 s2 f).length then Hs else H m) := by
  have hL : ((farF N s2 f : Nat) : Int) = min s2 ((N : Int) - f) := by unfold farF; omega
  have hyF : yF ws s1 s2 f = comeF ws s1 f (roundsF ws f (farF N s2 f)) := by unfold yF; rw [hN]
  generalize farF N s2 f = L at hL hyF
  refine Fc.introX fn83 (by simp) hg ?_; simp only [argF]
  refine ITri.seq ?_
  refine ITri.reg pok ?_; simp -implicitDefEqProofs (disch := first | decide | exact of_eq_true (eq_true rfl) | omega | assumption) only [ ↓vcD, vcE, evs, evP, evB, intsOf, fillC, Value.cells, pt, List.append_nil, List.nil_append, List.cons_append, List.length_cons, List.length_nil, List.filter_nil, List.map_nil, ↓List.getElem?_cons_zero, ↓List.getElem?_cons_succ, List.getElem?_cons_zero, List.getElem?_cons_succ, List.set_cons_zero, List.set_cons_succ, Option.join_some, Option.join_none, Option.map_some, List.all_cons, List.all_nil, Value.oneCell', reduceIte, reduceCtorEq, Nat.reduceEqDiff, Nat.reduceAdd, Nat.reduceMul, Nat.reduceLT, Nat.reduceBEq, Nat.reduceLeDiff, Nat.reduceSub, List.size_toArray] -- r0 crop.go:144
  refine ITri.seq ?_
  refine ITri.reg pok ?_; simp -implicitDefEqProofs (disch := first | decide | exact of_eq_true (eq_true rfl) | omega | assumption) only [hF,  ↓vcD, vcE, evs, evP, evB, intsOf, fillC, Value.cells, pt, List.append_nil, List.nil_append, List.cons_append, List.length_cons, List.length_nil, List.filter_nil, List.map_nil, ↓List.getElem?_cons_zero, ↓List.getElem?_cons_succ, List.getElem?_cons_zero, List.getElem?_cons_succ, List.set_cons_zero, List.set_cons_succ, Option.join_some, Option.join_none, Option.map_some, List.all_cons, List.all_nil, Value.oneCell', reduceIte, reduceCtorEq, Nat.reduceEqDiff, Nat.reduceAdd, Nat.reduceMul, Nat.reduceLT, Nat.reduceBEq, Nat.reduceLeDiff, Nat.reduceSub, List.size_toArray] -- r1 crop.go:145
  refine ITri.block ?_ -- 0
  refine ITri.loop (fun j : Nat => [(0, .func (.yield k) #[] #[]), (1, pt F), (2, pt B), (4, .int .i64 (lsF ws f j)), (5, .int .i64 ((f : Int) + 1 + j))]) (fun _ => []) (fun j => H (comeF ws s1 f j).length) (fun j => j ≤ L ∧ (∀ i, i < j → 0 ≤ lsF ws f (i + 1)) ∧ (comeF ws s1 f j).length ≤ m) (fun j => L + 1 - j) 0 ⟨Nat.zero_le _, fun i hi => by omega, Nat.zero_le _⟩ ?_ fun j hj => ?_
  · exact Wk.sub ⟨rfl, rfl, rfl, by rw [lsF_zero]; rfl, by simp [lk], trivial⟩
  obtain ⟨hj, hnn, hjm⟩ := hj
  have hcj := comeF_len ws s1 f j
  refine ITri.seq ?_
  refine ITri.seq ?_
  refine ITri.reg pok ?_; simp -implicitDefEqProofs (disch := first | decide | exact of_eq_true (eq_true rfl) | omega | assumption) only [hF, hB0, hB1, hB3,  ↓vcD, vcE, evs, evP, evB, intsOf, fillC, Value.cells, pt, List.append_nil, List.nil_append, List.cons_append, List.length_cons, List.length_nil, List.filter_nil, List.map_nil, ↓List.getElem?_cons_zero, ↓List.getElem?_cons_succ, List.getElem?_cons_zero, List.getElem?_cons_succ, List.set_cons_zero, List.set_cons_succ, Option.join_some, Option.join_none, Option.map_some, List.all_cons, List.all_nil, Value.oneCell', reduceIte, reduceCtorEq, Nat.reduceEqDiff, Nat.reduceAdd, Nat.reduceMul, Nat.reduceLT, Nat.reduceBEq, Nat.reduceLeDiff, Nat.reduceSub, List.size_toArray] -- r2 crop.go:145
  refine ITri.condD (by rfl) (fun h2 => ?_) (fun h2 => ?_) -- %19
  · have hjL : j < L := by omega
    have hfj : f + j < N := by omega
    have hx : ws[f + j]? = some (nth ws (f + j)) := get_nth (by omega)
    have hx1 := hw _ (List.mem_of_getElem? hx)
    have hls := lsF_succ hx
    have hm1 := lsF_bd hw f j
    have hm2 := lsF_bd hw f (j + 1)
    have e1 : ((f : Int) + 1 + j - 1).toNat = f + j := by omega
    refine ITri.skip ?_; simp only [SeqQ_normal, BlkQ_normal]
    refine ITri.seq ?_
    refine ITri.block ?_ -- 1
    refine ITri.seq ?_
    refine ITri.seq ?_
    refine ITri.reg pok ?_; simp -implicitDefEqProofs (disch := first | decide | exact of_eq_true (eq_true rfl) | omega | assumption) only [hF, hB0, hB1, hB3, e1, hW _ (f + j) hfj, ← hls,  ↓vcD, vcE, evs, evP, evB, intsOf, fillC, Value.cells, pt, List.append_nil, List.nil_append, List.cons_append, List.length_cons, List.length_nil, List.filter_nil, List.map_nil, ↓List.getElem?_cons_zero, ↓List.getElem?_cons_succ, List.getElem?_cons_zero, List.getElem?_cons_succ, List.set_cons_zero, List.set_cons_succ, Option.join_some, Option.join_none, Option.map_some, List.all_cons, List.all_nil, Value.oneCell', reduceIte, reduceCtorEq, Nat.reduceEqDiff, Nat.reduceAdd, Nat.reduceMul, Nat.reduceLT, Nat.reduceBEq, Nat.reduceLeDiff, Nat.reduceSub, List.size_toArray] -- r4 crop.go:146
    refine ITri.seq ?_
    refine ITri.reg pok ?_; simp -implicitDefEqProofs (disch := first | decide | exact of_eq_true (eq_true rfl) | omega | assumption) only [ ↓vcD, vcE, evs, evP, evB, intsOf, fillC, Value.cells, pt, List.append_nil, List.nil_append, List.cons_append, List.length_cons, List.length_nil, List.filter_nil, List.map_nil, ↓List.getElem?_cons_zero, ↓List.getElem?_cons_succ, List.getElem?_cons_zero, List.getElem?_cons_succ, List.set_cons_zero, List.set_cons_succ, Option.join_some, Option.join_none, Option.map_some, List.all_cons, List.all_nil, Value.oneCell', reduceIte, reduceCtorEq, Nat.reduceEqDiff, Nat.reduceAdd, Nat.reduceMul, Nat.reduceLT, Nat.reduceBEq, Nat.reduceLeDiff, Nat.reduceSub, List.size_toArray] -- r5 crop.go:146
    refine ITri.condD (by rfl) (fun h3 => ?_) (fun h3 => ?_) -- %31
    · have hr := roundsF_stop hnn h3 L hj
      rw [hr] at hyF
      have hml : m = (comeF ws s1 f j).length := by rw [hyF] at hm; omega
      refine ITri.ret ?_; exact EndX.mk (by simp) rfl rfl (by rw [hyF, if_neg (by omega), ← hml])
    refine ITri.skip ?_; simp only [SeqQ_normal, BlkQ_normal]
    have e2 : (f : Int) + 1 + j - f = (j : Int) + 1 := by omega
    have hbd : 0 ≤ ((j : Int) + 1) * lsF ws f (j + 1) ∧ ((j : Int) + 1) * lsF ws f (j + 1) ≤ 1000 * ((j : Int) + 1) := ⟨Int.mul_nonneg (by omega) (by omega), by rw [Int.mul_comm]; exact Int.mul_le_mul_of_nonneg_right (by omega) (by omega)⟩
    refine ITri.seq ?_
    refine ITri.reg pok ?_; simp -implicitDefEqProofs (disch := first | decide | exact of_eq_true (eq_true rfl) | omega | assumption) only [hF, e2,  ↓vcD, vcE, evs, evP, evB, intsOf, fillC, Value.cells, pt, List.append_nil, List.nil_append, List.cons_append, List.length_cons, List.length_nil, List.filter_nil, List.map_nil, ↓List.getElem?_cons_zero, ↓List.getElem?_cons_succ, List.getElem?_cons_zero, List.getElem?_cons_succ, List.set_cons_zero, List.set_cons_succ, Option.join_some, Option.join_none, Option.map_some, List.all_cons, List.all_nil, Value.oneCell', reduceIte, reduceCtorEq, Nat.reduceEqDiff, Nat.reduceAdd, Nat.reduceMul, Nat.reduceLT, Nat.reduceBEq, Nat.reduceLeDiff, Nat.reduceSub, List.size_toArray] -- r6 crop.go:149
    refine ITri.seq ?_
    by_cases h5 : s1 ≤ (j : Int) + 1
    · have hc1 : comeF ws s1 f (j + 1) = comeF ws s1 f j ++ [((f : Int), (f : Int) + 1 + j, ((j : Int) + 1) * lsF ws f (j + 1))] := by rw [comeF_succ, if_pos h5]
      have hle : j + 1 ≤ roundsF ws f L := roundsF_ge (by omega) L (by omega)
      have hget : (yF ws s1 s2 f)[(comeF ws s1 f j).length]? = some ((f : Int), (f : Int) + 1 + j, ((j : Int) + 1) * lsF ws f (j + 1)) := by
        rw [hyF, show roundsF ws f L = j + 1 + (roundsF ws f L - (j + 1)) by omega]
        obtain ⟨t, ht⟩ := comeF_pre (ws := ws) (s1 := s1) (f := f) (j := j + 1) (roundsF ws f L - (j + 1))
        rw [← ht, hc1, List.append_assoc, List.getElem?_append_right (Nat.le_refl _)]
        simp
      by_cases h6 : (comeF ws s1 f j).length < m
      · refine ITri.reg pok ?_; simp -implicitDefEqProofs (disch := first | decide | exact of_eq_true (eq_true rfl) | omega | assumption) only [hF, hB0, hB1, hB3, h5, decide_true,  ↓vcD, vcE, evs, evP, evB, intsOf, fillC, Value.cells, pt, List.append_nil, List.nil_append, List.cons_append, List.length_cons, List.length_nil, List.filter_nil, List.map_nil, ↓List.getElem?_cons_zero, ↓List.getElem?_cons_succ, List.getElem?_cons_zero, List.getElem?_cons_succ, List.set_cons_zero, List.set_cons_succ, Option.join_some, Option.join_none, Option.map_some, List.all_cons, List.all_nil, Value.oneCell', reduceIte, reduceCtorEq, Nat.reduceEqDiff, Nat.reduceAdd, Nat.reduceMul, Nat.reduceLT, Nat.reduceBEq, Nat.reduceLeDiff, Nat.reduceSub, List.size_toArray] -- r7 crop.go:149 CALLS .call %41 [%44, %47] GUARDS [40] live [0, 1, 2, 4, 5, 50]
        refine ⟨hk _, _, _, HT _ _ h6 hget, ?_⟩
        try simp -implicitDefEqProofs (disch := first | decide | exact of_eq_true (eq_true rfl) | omega | assumption) only [ ↓vcD, vcE, evs, evP, evB, intsOf, fillC, Value.cells, pt, List.append_nil, List.nil_append, List.cons_append, List.length_cons, List.length_nil, List.filter_nil, List.map_nil, ↓List.getElem?_cons_zero, ↓List.getElem?_cons_succ, List.getElem?_cons_zero, List.getElem?_cons_succ, List.set_cons_zero, List.set_cons_succ, Option.join_some, Option.join_none, Option.map_some, List.all_cons, List.all_nil, Value.oneCell', reduceIte, reduceCtorEq, Nat.reduceEqDiff, Nat.reduceAdd, Nat.reduceMul, Nat.reduceLT, Nat.reduceBEq, Nat.reduceLeDiff, Nat.reduceSub, List.size_toArray]
        refine ITri.cond (v := false) rfl (fun h => by cases h) (fun _ => ?_)
        refine ITri.skip ?_; simp only [SeqQ_normal, BlkQ_normal]
        refine ITri.reg pok ?_; simp -implicitDefEqProofs (disch := first | decide | exact of_eq_true (eq_true rfl) | omega | assumption) only [ ↓vcD, vcE, evs, evP, evB, intsOf, fillC, Value.cells, pt, List.append_nil, List.nil_append, List.cons_append, List.length_cons, List.length_nil, List.filter_nil, List.map_nil, ↓List.getElem?_cons_zero, ↓List.getElem?_cons_succ, List.getElem?_cons_zero, List.getElem?_cons_succ, List.set_cons_zero, List.set_cons_succ, Option.join_some, Option.join_none, Option.map_some, List.all_cons, List.all_nil, Value.oneCell', reduceIte, reduceCtorEq, Nat.reduceEqDiff, Nat.reduceAdd, Nat.reduceMul, Nat.reduceLT, Nat.reduceBEq, Nat.reduceLeDiff, Nat.reduceSub, List.size_toArray] -- r3 crop.go:145
        have hc2 : (comeF ws s1 f (j + 1)).length = (comeF ws s1 f j).length + 1 := by rw [hc1]; simp
        refine LoopQ.next (j + 1) ⟨by omega, fun i hi => ?_, by omega⟩ (by omega) ?_
        · rcases Nat.lt_or_ge i j with q | q
          · exact hnn i q
          · obtain rfl : i = j := by omega
            omega
        · rw [hc2]
          exact Wk.sub ⟨rfl, rfl, rfl, rfl, by simp [lk]; omega, trivial⟩
      · have hme : m = (comeF ws s1 f j).length := by omega
        have hml : m < (yF ws s1 s2 f).length := by rw [hme]; exact (List.getElem?_eq_some_iff.1 hget).1
        rw [← hme] at hget
        refine ITri.reg pok ?_; simp -implicitDefEqProofs (disch := first | decide | exact of_eq_true (eq_true rfl) | omega | assumption) only [hF, hB0, hB1, hB3, h5, decide_true, ← hme,  ↓vcD, vcE, evs, evP, evB, intsOf, fillC, Value.cells, pt, List.append_nil, List.nil_append, List.cons_append, List.length_cons, List.length_nil, List.filter_nil, List.map_nil, ↓List.getElem?_cons_zero, ↓List.getElem?_cons_succ, List.getElem?_cons_zero, List.getElem?_cons_succ, List.set_cons_zero, List.set_cons_succ, Option.join_some, Option.join_none, Option.map_some, List.all_cons, List.all_nil, Value.oneCell', reduceIte, reduceCtorEq, Nat.reduceEqDiff, Nat.reduceAdd, Nat.reduceMul, Nat.reduceLT, Nat.reduceBEq, Nat.reduceLeDiff, Nat.reduceSub, List.size_toArray]
        refine ⟨hk _, _, _, HX _ hget, ?_⟩
        try simp -implicitDefEqProofs (disch := first | decide | exact of_eq_true (eq_true rfl) | omega | assumption) only [ ↓vcD, vcE, evs, evP, evB, intsOf, fillC, Value.cells, pt, List.append_nil, List.nil_append, List.cons_append, List.length_cons, List.length_nil, List.filter_nil, List.map_nil, ↓List.getElem?_cons_zero, ↓List.getElem?_cons_succ, List.getElem?_cons_zero, List.getElem?_cons_succ, List.set_cons_zero, List.set_cons_succ, Option.join_some, Option.join_none, Option.map_some, List.all_cons, List.all_nil, Value.oneCell', reduceIte, reduceCtorEq, Nat.reduceEqDiff, Nat.reduceAdd, Nat.reduceMul, Nat.reduceLT, Nat.reduceBEq, Nat.reduceLeDiff, Nat.reduceSub, List.size_toArray]
        refine ITri.cond (v := true) rfl (fun _ => ?_) (fun h => by cases h)
        refine ITri.ret ?_; exact EndX.mk (by simp) rfl rfl (by rw [if_pos hml])
    · have hc1 : comeF ws s1 f (j + 1) = comeF ws s1 f j := by rw [comeF_succ, if_neg h5, List.append_nil]
      refine ITri.reg pok ?_; simp -implicitDefEqProofs (disch := first | decide | exact of_eq_true (eq_true rfl) | omega | assumption) only [hF, hB0, hB1, hB3, h5, decide_false,  ↓vcD, vcE, evs, evP, evB, intsOf, fillC, Value.cells, pt, List.append_nil, List.nil_append, List.cons_append, List.length_cons, List.length_nil, List.filter_nil, List.map_nil, ↓List.getElem?_cons_zero, ↓List.getElem?_cons_succ, List.getElem?_cons_zero, List.getElem?_cons_succ, List.set_cons_zero, List.set_cons_succ, Option.join_some, Option.join_none, Option.map_some, List.all_cons, List.all_nil, Value.oneCell', reduceIte, reduceCtorEq, Nat.reduceEqDiff, Nat.reduceAdd, Nat.reduceMul, Nat.reduceLT, Nat.reduceBEq, Nat.reduceLeDiff, Nat.reduceSub, List.size_toArray]
      refine ITri.cond (v := false) rfl (fun h => by cases h) (fun _ => ?_)
      refine ITri.skip ?_; simp only [SeqQ_normal, BlkQ_normal]
      refine ITri.reg pok ?_; simp -implicitDefEqProofs (disch := first | decide | exact of_eq_true (eq_true rfl) | omega | assumption) only [ ↓vcD, vcE, evs, evP, evB, intsOf, fillC, Value.cells, pt, List.append_nil, List.nil_append, List.cons_append, List.length_cons, List.length_nil, List.filter_nil, List.map_nil, ↓List.getElem?_cons_zero, ↓List.getElem?_cons_succ, List.getElem?_cons_zero, List.getElem?_cons_succ, List.set_cons_zero, List.set_cons_succ, Option.join_some, Option.join_none, Option.map_some, List.all_cons, List.all_nil, Value.oneCell', reduceIte, reduceCtorEq, Nat.reduceEqDiff, Nat.reduceAdd, Nat.reduceMul, Nat.reduceLT, Nat.reduceBEq, Nat.reduceLeDiff, Nat.reduceSub, List.size_toArray] -- r3 crop.go:145
      refine LoopQ.next (j + 1) ⟨by omega, fun i hi => ?_, by rw [hc1]; exact hjm⟩ (by omega) ?_
      · rcases Nat.lt_or_ge i j with q | q
        · exact hnn i q
        · obtain rfl : i = j := by omega
          omega
      · rw [hc1]
        exact Wk.sub ⟨rfl, rfl, rfl, rfl, by simp [lk]; omega, trivial⟩
  have hjL : j = L := by omega
  subst hjL
  refine ITri.exit ?_; try simp -implicitDefEqProofs (disch := first | decide | exact of_eq_true (eq_true rfl) | omega | assumption) only [ ↓vcD, vcE, evs, evP, evB, intsOf, fillC, Value.cells, pt, List.append_nil, List.nil_append, List.cons_append, List.length_cons, List.length_nil, List.filter_nil, List.map_nil, ↓List.getElem?_cons_zero, ↓List.getElem?_cons_succ, List.getElem?_cons_zero, List.getElem?_cons_succ, List.set_cons_zero, List.set_cons_succ, Option.join_some, Option.join_none, Option.map_some, List.all_cons, List.all_nil, Value.oneCell', reduceIte, reduceCtorEq, Nat.reduceEqDiff, Nat.reduceAdd, Nat.reduceMul, Nat.reduceLT, Nat.reduceBEq, Nat.reduceLeDiff, Nat.reduceSub, List.size_toArray]
  rw [roundsF_all hnn] at hyF
  exact EndX.mk (by simp) rfl rfl (by rw [hyF] at hm ⊢; rw [if_neg (by omega), show m = (comeF ws s1 f j).length by omega])
end Go.Proofs.Ytlkfcbdbieenhaa
