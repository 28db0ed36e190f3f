/-
  Chapter 6: the reference's Scan, by names.
-/
import Derived.Test.YtgjokhodccacoaaDoorSRecS1
set_option linter.unusedSimpArgs false
set_option linter.unusedVariables false
namespace Go.Proofs.YtgjokhodccacoaaDoor
open Go.RowKit Go.Vm
set_option maxRecDepth 100000
theorem lz_go {l : List (Int × Int)} {s a : Nat} (h : s ≤ a) : lz l s (a + 1) = l ++ [((s : Int), (a : Int))] := by
  unfold lz
  rw [if_pos (by omega), show ((a + 1 : Nat) : Int) - 1 = a by omega]
theorem lz_at {l : List (Int × Int)} {s : Nat} : lz l s s = l := if_neg (by omega)
/- boule/bouleref06.Scan · slots 72 · names 0:b 1:b 5:found 6:lost 7:at 8:f 9:next 10:e 11:n · results [2, 3, 4] -/
def ir28_r0 : IC := .reg [⟨some 2, none, false, .mv (.k (.slice none 0 0))⟩,
  ⟨some 3, none, false, .mv (.k (.slice none 0 0))⟩,
  ⟨some 4, none, false, .mv (.k (.int .i64 0))⟩] (some [0])
def ir28_r1 : IC := .reg [⟨some 12, none, false, .mv (.t 0)⟩,
  ⟨some 13, none, false, .len (.t 12)⟩,
  ⟨some 14, none, false, .cmp .gtr (.t 13) (.k (.int .i64 30000))⟩] (some [0, 14])
def ir28_r2 : IC := .reg [⟨some 2, none, false, .mv (.k (.slice none 0 0))⟩,
  ⟨some 3, none, false, .mv (.k (.slice none 0 0))⟩,
  ⟨some 4, none, false, .mv (.k (.int .i64 5))⟩] (some [2, 3, 4])
def ir28_1 : IC := .seq ir28_r2 .ret
def ir28_2 : IC := .cond (.t 14) ir28_1 .skip
def ir28_3 : IC := .seq ir28_r1 ir28_2
def ir28_r3 : IC := .reg [⟨some 15, none, false, .bsl 3 0 [] []⟩,
  ⟨some 16, none, false, .bsl 2 0 [] []⟩,
  ⟨some 5, none, false, .mv (.t 15)⟩,
  ⟨some 6, none, false, .mv (.t 16)⟩] (some [0, 5, 6])
def ir28_r4 : IC := .reg [⟨some 7, none, false, .mv (.k (.int .i64 0))⟩] (some [0, 5, 6, 7])
def ir28_r5 : IC := .reg [⟨some 17, none, false, .mv (.t 7)⟩,
  ⟨some 18, none, false, .mv (.t 0)⟩,
  ⟨some 19, none, false, .len (.t 18)⟩,
  ⟨some 20, none, false, .cmp .lss (.t 17) (.t 19)⟩] (some [0, 5, 6, 7, 20])
def ir28_4 : IC := .cond (.t 20) .skip (.exit 0)
def ir28_5 : IC := .seq ir28_r5 ir28_4
def ir28_r6 : IC := .reg [⟨some 22, none, false, .mv (.t 0)⟩,
  ⟨some 23, none, false, .mv (.t 7)⟩,
  ⟨some 24, none, false, .call (.f 26) [(.t 22), (.t 23)]⟩,
  ⟨some 21, none, false, .mv (.t 24)⟩,
  ⟨some 25, none, false, .ext (.t 21) 0⟩,
  ⟨some 26, none, false, .ext (.t 21) 1⟩,
  ⟨some 27, none, false, .ext (.t 21) 2⟩,
  ⟨some 8, none, false, .alloc [(.int .i64 0), (.slice none 0 0)]⟩,
  ⟨none, none, false, .st 2 (.t 8) (.t 25)⟩,
  ⟨some 9, none, false, .mv (.t 26)⟩,
  ⟨some 10, none, false, .mv (.t 27)⟩] (some [0, 5, 6, 7, 8, 9, 10])
def ir28_r7 : IC := .reg [⟨some 28, none, false, .mv (.t 10)⟩,
  ⟨some 29, none, false, .cmp .eql (.t 28) (.k (.int .i64 0))⟩] (some [0, 5, 6, 7, 8, 9, 29])
def ir28_r8 : IC := .reg [⟨some 30, none, false, .mv (.t 5)⟩,
  ⟨some 31, none, false, .mv (.t 7)⟩,
  ⟨some 32, none, false, .mv (.t 9)⟩,
  ⟨some 33, none, false, .mv (.t 7)⟩,
  ⟨some 34, none, false, .ar .sub (.t 32) (.t 33)⟩,
  ⟨some 35, none, false, .fad 0 (.t 8)⟩,
  ⟨some 36, none, false, .ldc (.t 35)⟩,
  ⟨some 37, none, false, .bld [(.int .i64 0), (.int .i64 0), (.int .i64 0)] [(0, 1, (.t 31)), (1, 1, (.t 34)), (2, 1, (.t 36))]⟩,
  ⟨some 38, none, false, .bsl 3 1 [(.int .i64 0), (.int .i64 0), (.int .i64 0)] [(0, (.t 37))]⟩,
  ⟨some 39, none, false, .app 3 24 (.t 30) (.t 38)⟩,
  ⟨some 40, none, false, .mv (.t 9)⟩,
  ⟨some 5, none, false, .mv (.t 39)⟩,
  ⟨some 7, none, false, .mv (.t 40)⟩] (some [0, 5, 6, 7])
def ir28_6 : IC := .seq ir28_r8 (.exit 1)
def ir28_7 : IC := .cond (.t 29) ir28_6 .skip
def ir28_8 : IC := .seq ir28_r7 ir28_7
def ir28_r9 : IC := .reg [⟨some 41, none, false, .mv (.t 6)⟩,
  ⟨some 42, none, false, .len (.t 41)⟩,
  ⟨some 11, none, false, .mv (.t 42)⟩] (some [0, 5, 6, 7, 11])
def ir28_r10 : IC := .reg [⟨some 43, none, false, .mv (.t 11)⟩,
  ⟨some 44, none, false, .cmp .gtr (.t 43) (.k (.int .i64 0))⟩,
  ⟨some 45, none, false, .mv (.t 44)⟩,
  ⟨some 46, some (45, true), false, .mv (.t 6)⟩,
  ⟨some 47, some (45, true), false, .mv (.t 11)⟩,
  ⟨some 48, some (45, true), false, .ar .sub (.t 47) (.k (.int .i64 1))⟩,
  ⟨some 49, some (45, true), false, .iad 2 (.t 46) (.t 48)⟩,
  ⟨some 50, some (45, true), false, .fad 1 (.t 49)⟩,
  ⟨some 51, some (45, true), false, .ldc (.t 50)⟩,
  ⟨some 52, some (45, true), false, .mv (.t 7)⟩,
  ⟨some 53, some (45, true), false, .ar .sub (.t 52) (.k (.int .i64 1))⟩,
  ⟨some 54, some (45, true), false, .cmp .eql (.t 51) (.t 53)⟩,
  ⟨some 55, none, false, .pick (.t 45) (.t 54) (.k (.bool false))⟩] (some [0, 5, 6, 7, 11, 55])
def ir28_r11 : IC := .reg [⟨some 56, none, false, .mv (.t 6)⟩,
  ⟨some 57, none, false, .mv (.t 11)⟩,
  ⟨some 58, none, false, .ar .sub (.t 57) (.k (.int .i64 1))⟩,
  ⟨some 59, none, false, .mv (.t 7)⟩,
  ⟨some 60, none, false, .iad 2 (.t 56) (.t 58)⟩,
  ⟨some 61, none, false, .fad 1 (.t 60)⟩,
  ⟨none, none, false, .st 1 (.t 61) (.t 59)⟩] (some [0, 5, 6, 7])
def ir28_r12 : IC := .reg [⟨some 62, none, false, .mv (.t 6)⟩,
  ⟨some 63, none, false, .mv (.t 7)⟩,
  ⟨some 64, none, false, .mv (.t 7)⟩,
  ⟨some 65, none, false, .bld [(.int .i64 0), (.int .i64 0)] [(0, 1, (.t 63)), (1, 1, (.t 64))]⟩,
  ⟨some 66, none, false, .bsl 2 1 [(.int .i64 0), (.int .i64 0)] [(0, (.t 65))]⟩,
  ⟨some 67, none, false, .app 2 16 (.t 62) (.t 66)⟩,
  ⟨some 6, none, false, .mv (.t 67)⟩] (some [0, 5, 6, 7])
def ir28_9 : IC := .cond (.t 55) ir28_r11 ir28_r12
def ir28_10 : IC := .seq ir28_r10 ir28_9
def ir28_11 : IC := .seq ir28_r9 ir28_10
def ir28_r13 : IC := .reg [⟨some 68, none, false, .mv (.t 7)⟩,
  ⟨some 69, none, false, .ar .add (.t 68) (.k (.int .i64 1))⟩,
  ⟨some 7, none, false, .mv (.t 69)⟩] (some [0, 5, 6, 7])
def ir28_12 : IC := .seq ir28_11 ir28_r13
def ir28_13 : IC := .seq ir28_8 ir28_12
def ir28_14 : IC := .seq ir28_r6 ir28_13
def ir28_15 : IC := .block 1 ir28_14
def ir28_16 : IC := .seq ir28_5 ir28_15
def ir28_17 : IC := .loop ir28_16
def ir28_18 : IC := .block 0 ir28_17
def ir28_19 : IC := .seq ir28_r4 ir28_18
def ir28_r14 : IC := .reg [⟨some 70, none, false, .mv (.t 5)⟩,
  ⟨some 71, none, false, .mv (.t 6)⟩,
  ⟨some 2, none, false, .mv (.t 70)⟩,
  ⟨some 3, none, false, .mv (.t 71)⟩,
  ⟨some 4, none, false, .mv (.k (.int .i64 0))⟩] (some [2, 3, 4])
def ir28_20 : IC := .seq ir28_r14 .ret
def ir28_21 : IC := .seq ir28_19 ir28_20
def ir28_22 : IC := .seq ir28_r3 ir28_21
def ir28_23 : IC := .seq ir28_3 ir28_22
def ir28_24 : IC := .seq ir28_r0 ir28_23
def ir28 : IC := ir28_24
theorem fn28 : FnIs Tryd.prog 28 ir28 72 [.tmp 2, .tmp 3, .tmp 4] := ⟨Tryd.f28, Tryd.f28.body.getD .skip, Tryd.func28, by kernel_rfl, by kernel_rfl, by kernel_rfl, by kernel_rfl⟩
theorem rscan_c (n c : Nat) (xs : List Int) (hn : xs.length = n) (hB : isB xs) (hb : n ≤ 1000000) (hc : n ≤ c) (hco : c < openB) :
    Fc Tryd.prog 28 [.slice (some ⟨1, 0, none⟩) n c] (Hp 2 [none, srB xs]) (.tuple #[sO 2 (scF xs).length, sO 3 (scL xs).length, .int .i64 (scE xs)]) ((Hp 2 [none, srB xs]).news [.cells ⟨rows eF3 (scF xs), 3, true⟩, .cells ⟨rows eR2 (scL xs), 2, true⟩]) := by
  refine Fc.introR fn28 (by simp) rfl rfl ?_; simp only [argF]
  refine ITri.seq ?_
  refine ITri.reg pok ?_; simp -implicitDefEqProofs (disch := first | decide | exact of_eq_true (eq_true rfl) | omega | assumption) only [ ↓vcD, vcE, ↓vcG, vcF, evs, evP, evB, intsOf, fillC, Value.cells, pt, Value.oneCell', reduceIte, reduceCtorEq, Nat.reduceEqDiff, Nat.reduceAdd, Nat.reduceMul, Nat.reduceLT, Nat.reduceBEq, Nat.reduceLeDiff, Nat.reduceSub] -- r0 ref.go:151
  refine ITri.seq ?_
  refine ITri.seq ?_
  refine ITri.reg pok ?_; simp -implicitDefEqProofs (disch := first | decide | exact of_eq_true (eq_true rfl) | omega | assumption) only [ ↓vcD, vcE, ↓vcG, vcF, evs, evP, evB, intsOf, fillC, Value.cells, pt, Value.oneCell', reduceIte, reduceCtorEq, Nat.reduceEqDiff, Nat.reduceAdd, Nat.reduceMul, Nat.reduceLT, Nat.reduceBEq, Nat.reduceLeDiff, Nat.reduceSub] -- r1 ref.go:152
  refine ITri.condD (by rfl) (fun h1 => ?_) (fun h1 => ?_) -- %14
  · have e1 : scF xs = [] := if_pos (by omega)
    have e2 : scL xs = [] := if_pos (by omega)
    have e3 : scE xs = 5 := if_pos (by omega)
    rw [e1, e2, e3]
    refine ITri.seq ?_
    refine ITri.reg pok ?_; simp -implicitDefEqProofs (disch := first | decide | exact of_eq_true (eq_true rfl) | omega | assumption) only [ ↓vcD, vcE, ↓vcG, vcF, evs, evP, evB, intsOf, fillC, Value.cells, pt, Value.oneCell', reduceIte, reduceCtorEq, Nat.reduceEqDiff, Nat.reduceAdd, Nat.reduceMul, Nat.reduceLT, Nat.reduceBEq, Nat.reduceLeDiff, Nat.reduceSub] -- r2 ref.go:153
    refine ITri.ret ?_
    exact end_nils (resF_tmp rfl (resF_tmp rfl (resF_tmp rfl resF_nil)))
  have e3 : scE xs = 0 := if_neg (by omega)
  have hl : xs.length ≤ 30000 := by omega
  refine ITri.skip ?_; simp only [SeqQ_normal, BlkQ_normal]
  refine ITri.seq ?_
  refine ITri.reg pok ?_; simp -implicitDefEqProofs (disch := first | decide | exact of_eq_true (eq_true rfl) | omega | assumption) only [ ↓vcD, vcE, ↓vcG, vcF, evs, evP, evB, intsOf, fillC, Value.cells, pt, Value.oneCell', reduceIte, reduceCtorEq, Nat.reduceEqDiff, Nat.reduceAdd, Nat.reduceMul, Nat.reduceLT, Nat.reduceBEq, Nat.reduceLeDiff, Nat.reduceSub] -- r3 ref.go:155
  refine ITri.seq ?_
  refine ITri.seq ?_
  refine ITri.reg pok ?_; simp -implicitDefEqProofs (disch := first | decide | exact of_eq_true (eq_true rfl) | omega | assumption) only [ ↓vcD, vcE, ↓vcG, vcF, evs, evP, evB, intsOf, fillC, Value.cells, pt, Value.oneCell', reduceIte, reduceCtorEq, Nat.reduceEqDiff, Nat.reduceAdd, Nat.reduceMul, Nat.reduceLT, Nat.reduceBEq, Nat.reduceLeDiff, Nat.reduceSub] -- r4 ref.go:156
  refine ITri.block ?_ -- 0
  have z0 : rows eF3 sc0.found = [] := rfl
  have z1 : rows eR2 (lz sc0.lost sc0.since 0) = [] := rfl
  have z2 : sc0.found.length = 0 := rfl
  have z3 : (lz sc0.lost sc0.since 0).length = 0 := rfl
  have z4 : sc0.at_ = 0 := rfl
  refine ITri.loop (fun s : Sc => [(0, .slice (some ⟨1, 0, none⟩) n c), (5, sO 2 s.found.length), (6, sO 3 (lz s.lost s.since s.at_).length), (7, .int .i64 s.at_)]) (fun _ => []) (fun s => Hp 2 [none, srB xs, rF3 s.found, rR2 (lz s.lost s.since s.at_)]) (ScJ xs) (fun s => n - s.at_) sc0 sc_begin (Wk.gc [0, 1, 2, 3] [(2, .room 0), (3, .room 0)] (of_decide_eq_true rfl) (of_decide_eq_true rfl) rfl rfl (of_decide_eq_true rfl) rfl rfl (by repeat (first | exact xiOK_nil | refine xiOK_cons (by first | trivial | exact roomOK _ (by decide)) ?_)) rfl (by simp -implicitDefEqProofs (disch := first | decide | exact of_eq_true (eq_true rfl) | omega | assumption) only [z0, z1, z2, z3, z4, z00, objOK, sgL, xiL, objAt, nilO, OM, mvL, mv, mvS, okS, okP, mvL_rows, okML, okM, okML_rows, List.getElem?_cons_zero, Option.getD_some, implies_true, imp_self, ne_eq, and_self, true_or, or_true, Nat.zero_mul, Nat.sub_self, openB_self, ↓vcD, vcE, ↓vcG, vcF, evs, evP, evB, intsOf, fillC, Value.cells, pt, Value.oneCell', reduceIte, reduceCtorEq, Nat.reduceEqDiff, Nat.reduceAdd, Nat.reduceMul, Nat.reduceLT, Nat.reduceBEq, Nat.reduceLeDiff, Nat.reduceSub]) (by simp -implicitDefEqProofs (disch := first | decide | exact of_eq_true (eq_true rfl) | omega | assumption) only [z0, z1, z2, z3, z4, z00, valOK, sgL, xiL, mv, mvA, mvL, mvS, okS, okP, okM, okMA, okML, Option.getD_some, implies_true, and_self, true_or, or_true, Int.natCast_add, Int.cast_ofNat_Int, Nat.zero_mul, Nat.sub_self, openB_self, ↓vcD, vcE, ↓vcG, vcF, evs, evP, evB, intsOf, fillC, Value.cells, pt, Value.oneCell', reduceIte, reduceCtorEq, Nat.reduceEqDiff, Nat.reduceAdd, Nat.reduceMul, Nat.reduceLT, Nat.reduceBEq, Nat.reduceLeDiff, Nat.reduceSub]) (fun _ h => by cases h) ⟨rfl, fun _ h => by cases h⟩) fun s J => ?_
  refine ITri.seq ?_
  refine ITri.seq ?_
  refine ITri.reg pok ?_; simp -implicitDefEqProofs (disch := first | decide | exact of_eq_true (eq_true rfl) | omega | assumption) only [ ↓vcD, vcE, ↓vcG, vcF, evs, evP, evB, intsOf, fillC, Value.cells, pt, Value.oneCell', reduceIte, reduceCtorEq, Nat.reduceEqDiff, Nat.reduceAdd, Nat.reduceMul, Nat.reduceLT, Nat.reduceBEq, Nat.reduceLeDiff, Nat.reduceSub] -- r5 ref.go:156
  refine ITri.condD (by rfl) (fun h3 => ?_) (fun h3 => ?_) -- %20
  · have J2 := sc_step hl J (by omega)
    obtain ⟨j1, j2, j3, j4, j5, j6⟩ := id J
    have hgk := getR_ok hl j2
    refine ITri.skip ?_; simp only [SeqQ_normal, BlkQ_normal]
    refine ITri.cut (fun s : Sc => [(0, .slice (some ⟨1, 0, none⟩) n c), (5, sO 2 s.found.length), (6, sO 3 (lz s.lost s.since s.at_).length), (7, .int .i64 s.at_)]) (fun _ => []) (fun s => Hp 2 [none, srB xs, rF3 s.found, rR2 (lz s.lost s.since s.at_)]) (fun s' => ScJ xs s' ∧ s.at_ < s'.at_) ?_ (fun i hi => ?_)
    · refine ITri.block ?_ -- 1
      refine ITri.seq ?_
      refine ITri.reg pok ?_; simp -implicitDefEqProofs (disch := first | decide | exact of_eq_true (eq_true rfl) | omega | assumption) only [ ↓vcD, vcE, ↓vcG, vcF, evs, evP, evB, intsOf, fillC, Value.cells, pt, Value.oneCell', reduceIte, reduceCtorEq, Nat.reduceEqDiff, Nat.reduceAdd, Nat.reduceMul, Nat.reduceLT, Nat.reduceBEq, Nat.reduceLeDiff, Nat.reduceSub] -- r6 ref.go:157 CALLS .call F26 [%22, %23]
      refine ⟨_, _, rget_f _ hn hB hb hc hco (sees0 rfl (of_decide_eq_true rfl)) (get_hq rfl rfl), ?_⟩
      unfold scS at J2
      generalize getR xs s.at_ = g at *
      simp -implicitDefEqProofs (disch := first | decide | exact of_eq_true (eq_true rfl) | omega | assumption) only [news_c, news_n,  ↓vcD, vcE, ↓vcG, vcF, evs, evP, evB, intsOf, fillC, Value.cells, pt, Value.oneCell', reduceIte, reduceCtorEq, Nat.reduceEqDiff, Nat.reduceAdd, Nat.reduceMul, Nat.reduceLT, Nat.reduceBEq, Nat.reduceLeDiff, Nat.reduceSub]
      refine ITri.seq ?_
      refine ITri.seq ?_
      by_cases he : g.2.2.2 = 0
      · rw [if_pos he] at J2
        obtain ⟨nx, en, b1, b2, b3, b4⟩ := hgk he
        rw [en, Int.toNat_natCast] at J2
        have hsz : (rows eF3 s.found).length = s.found.length * 3 := rows_len _
        have hs1 : rows eF3 s.found ++ [Value.int .i64 s.at_, .int .i64 (nx - s.at_), .int .i64 g.1] = rows eF3 (s.found ++ [((s.at_ : Int), (nx : Int) - s.at_, g.1)]) := by rw [rows_append, rows_one]
        have hs2 : (s.found ++ [((s.at_ : Int), (nx : Int) - s.at_, g.1)]).length = s.found.length + 1 := by rw [List.length_append]; rfl
        refine ITri.reg pok ?_; simp -implicitDefEqProofs (disch := first | decide | exact of_eq_true (eq_true rfl) | omega | assumption) only [he, decide_true,  ↓vcD, vcE, ↓vcG, vcF, evs, evP, evB, intsOf, fillC, Value.cells, pt, Value.oneCell', reduceIte, reduceCtorEq, Nat.reduceEqDiff, Nat.reduceAdd, Nat.reduceMul, Nat.reduceLT, Nat.reduceBEq, Nat.reduceLeDiff, Nat.reduceSub] -- r7
        refine ITri.cond (v := true) rfl (fun _ => ?_) (fun h => by cases h)
        refine ITri.seq ?_
        refine ITri.reg pok ?_; simp -implicitDefEqProofs (disch := first | decide | exact of_eq_true (eq_true rfl) | omega | assumption) only [hsz, en, hs1,  ↓vcD, vcE, ↓vcG, vcF, evs, evP, evB, intsOf, fillC, Value.cells, pt, Value.oneCell', reduceIte, reduceCtorEq, Nat.reduceEqDiff, Nat.reduceAdd, Nat.reduceMul, Nat.reduceLT, Nat.reduceBEq, Nat.reduceLeDiff, Nat.reduceSub] -- r8
        refine ITri.exit ?_; try simp -implicitDefEqProofs (disch := first | decide | exact of_eq_true (eq_true rfl) | omega | assumption) only [ ↓vcD, vcE, ↓vcG, vcF, evs, evP, evB, intsOf, fillC, Value.cells, pt, Value.oneCell', reduceIte, reduceCtorEq, Nat.reduceEqDiff, Nat.reduceAdd, Nat.reduceMul, Nat.reduceLT, Nat.reduceBEq, Nat.reduceLeDiff, Nat.reduceSub]
        refine CutQ.mk ⟨nx, nx, s.found ++ [((s.at_ : Int), (nx : Int) - s.at_, g.1)], lz s.lost s.since s.at_⟩ J2 ?_
        simp only [lz_at, hs2]
        exact (Wk.gc [0, 1, 7, 3] [] (of_decide_eq_true rfl) (of_decide_eq_true rfl) rfl rfl (of_decide_eq_true rfl) rfl rfl (fun _ h => by cases h) rfl (by simp -implicitDefEqProofs (disch := first | decide | exact of_eq_true (eq_true rfl) | omega | assumption) only [objOK, sgL, xiL, objAt, nilO, OM, mvL, mv, mvS, okS, okP, mvL_rows, okML, okM, okML_rows, List.getElem?_cons_zero, Option.getD_some, implies_true, imp_self, ne_eq, and_self, ↓vcD, vcE, ↓vcG, vcF, evs, evP, evB, intsOf, fillC, Value.cells, pt, Value.oneCell', reduceIte, reduceCtorEq, Nat.reduceEqDiff, Nat.reduceAdd, Nat.reduceMul, Nat.reduceLT, Nat.reduceBEq, Nat.reduceLeDiff, Nat.reduceSub]) (by simp -implicitDefEqProofs (disch := first | decide | exact of_eq_true (eq_true rfl) | omega | assumption) only [ valOK, sgL, xiL, mv, mvA, mvL, mvS, okS, okP, okM, okMA, okML, Option.getD_some, implies_true, and_self, Int.natCast_add, Int.cast_ofNat_Int, ↓vcD, vcE, ↓vcG, vcF, evs, evP, evB, intsOf, fillC, Value.cells, pt, Value.oneCell', reduceIte, reduceCtorEq, Nat.reduceEqDiff, Nat.reduceAdd, Nat.reduceMul, Nat.reduceLT, Nat.reduceBEq, Nat.reduceLeDiff, Nat.reduceSub]) (fun _ h => by cases h) ⟨rfl, fun _ h => by cases h⟩)
      · rw [if_neg he] at J2
        have hk1 : (s.at_ : Int) + 1 = ((s.at_ + 1 : Nat) : Int) := by omega
        refine ITri.reg pok ?_; simp -implicitDefEqProofs (disch := first | decide | exact of_eq_true (eq_true rfl) | omega | assumption) only [he, decide_false,  ↓vcD, vcE, ↓vcG, vcF, evs, evP, evB, intsOf, fillC, Value.cells, pt, Value.oneCell', reduceIte, reduceCtorEq, Nat.reduceEqDiff, Nat.reduceAdd, Nat.reduceMul, Nat.reduceLT, Nat.reduceBEq, Nat.reduceLeDiff, Nat.reduceSub] -- r7
        refine ITri.cond (v := false) rfl (fun h => by cases h) (fun _ => ?_); refine ITri.skip ?_; simp only [SeqQ_normal, BlkQ_normal]
        refine ITri.seq ?_
        refine ITri.seq ?_
        refine ITri.reg pok ?_; simp -implicitDefEqProofs (disch := first | decide | exact of_eq_true (eq_true rfl) | omega | assumption) only [ ↓vcD, vcE, ↓vcG, vcF, evs, evP, evB, intsOf, fillC, Value.cells, pt, Value.oneCell', reduceIte, reduceCtorEq, Nat.reduceEqDiff, Nat.reduceAdd, Nat.reduceMul, Nat.reduceLT, Nat.reduceBEq, Nat.reduceLeDiff, Nat.reduceSub] -- r9 ref.go:162
        refine ITri.seq ?_
        have hz := lz_go (l := s.lost) j1
        by_cases hsa : s.since < s.at_
        · have hq : lz s.lost s.since s.at_ = s.lost ++ [((s.since : Int), (s.at_ : Int) - 1)] := if_pos hsa
          have hql : (lz s.lost s.since s.at_).length = s.lost.length + 1 := by rw [hq, List.length_append]; rfl
          have hix : s.lost.length < (lz s.lost s.since s.at_).length := by omega
          have hnk : nth (lz s.lost s.since s.at_) s.lost.length = ((s.since : Int), (s.at_ : Int) - 1) := by rw [hq]; exact nth_of (by simp)
          have hg := rows_get (f := eR2) (j := 1) hix (by decide)
          rw [hnk] at hg
          have hw : writeAt (rows eR2 (lz s.lost s.since s.at_)) (s.lost.length * 2 + 1) [.int .i64 s.at_] = rows eR2 (lz s.lost s.since (s.at_ + 1)) := by
            rw [rows_writef (f := eR2) ((s.since : Int), (s.at_ : Int)) hix (j := 1) (by decide) (by rw [hnk]; rfl), hz, hq]
            congr 1
            simp
          have hzl : (lz s.lost s.since (s.at_ + 1)).length = s.lost.length + 1 := by rw [hz, List.length_append]; rfl
          have hcl : (rows eR2 (lz s.lost s.since s.at_)).length = (s.lost.length + 1) * 2 := by rw [rows_len, hql]
          have hc0 : (0 : Int) < ((s.lost.length + 1 : Nat) : Int) := by omega
          have hc1 : ((s.lost.length + 1 : Nat) : Int) - 1 = (s.lost.length : Int) := by omega
          generalize lz s.lost s.since s.at_ = q at *
          generalize s.lost.length = k at *
          simp only [hql]
          refine ITri.reg pok ?_; simp -implicitDefEqProofs (disch := first | decide | exact of_eq_true (eq_true rfl) | omega | assumption) only [hc0, hc1, hg, decide_true,  ↓vcD, vcE, ↓vcG, vcF, evs, evP, evB, intsOf, fillC, Value.cells, pt, Value.oneCell', reduceIte, reduceCtorEq, Nat.reduceEqDiff, Nat.reduceAdd, Nat.reduceMul, Nat.reduceLT, Nat.reduceBEq, Nat.reduceLeDiff, Nat.reduceSub] -- r10
          refine ITri.cond (v := true) rfl (fun _ => ?_) (fun h => by cases h)
          refine ITri.reg pok ?_; simp -implicitDefEqProofs (disch := first | decide | exact of_eq_true (eq_true rfl) | omega | assumption) only [hc1, hcl, hw,  ↓vcD, vcE, ↓vcG, vcF, evs, evP, evB, intsOf, fillC, Value.cells, pt, Value.oneCell', reduceIte, reduceCtorEq, Nat.reduceEqDiff, Nat.reduceAdd, Nat.reduceMul, Nat.reduceLT, Nat.reduceBEq, Nat.reduceLeDiff, Nat.reduceSub] -- r11
          refine ITri.reg pok ?_; simp -implicitDefEqProofs (disch := first | decide | exact of_eq_true (eq_true rfl) | omega | assumption) only [hk1,  ↓vcD, vcE, ↓vcG, vcF, evs, evP, evB, intsOf, fillC, Value.cells, pt, Value.oneCell', reduceIte, reduceCtorEq, Nat.reduceEqDiff, Nat.reduceAdd, Nat.reduceMul, Nat.reduceLT, Nat.reduceBEq, Nat.reduceLeDiff, Nat.reduceSub] -- r13
          refine CutQ.mk ⟨s.at_ + 1, s.since, s.found, s.lost⟩ J2 ?_
          simp only [hzl]
          exact (Wk.gc [0, 1, 2, 3] [] (of_decide_eq_true rfl) (of_decide_eq_true rfl) rfl rfl (of_decide_eq_true rfl) rfl rfl (fun _ h => by cases h) rfl (by simp -implicitDefEqProofs (disch := first | decide | exact of_eq_true (eq_true rfl) | omega | assumption) only [objOK, sgL, xiL, objAt, nilO, OM, mvL, mv, mvS, okS, okP, mvL_rows, okML, okM, okML_rows, List.getElem?_cons_zero, Option.getD_some, implies_true, imp_self, ne_eq, and_self, ↓vcD, vcE, ↓vcG, vcF, evs, evP, evB, intsOf, fillC, Value.cells, pt, Value.oneCell', reduceIte, reduceCtorEq, Nat.reduceEqDiff, Nat.reduceAdd, Nat.reduceMul, Nat.reduceLT, Nat.reduceBEq, Nat.reduceLeDiff, Nat.reduceSub]) (by simp -implicitDefEqProofs (disch := first | decide | exact of_eq_true (eq_true rfl) | omega | assumption) only [ valOK, sgL, xiL, mv, mvA, mvL, mvS, okS, okP, okM, okMA, okML, Option.getD_some, implies_true, and_self, Int.natCast_add, Int.cast_ofNat_Int, ↓vcD, vcE, ↓vcG, vcF, evs, evP, evB, intsOf, fillC, Value.cells, pt, Value.oneCell', reduceIte, reduceCtorEq, Nat.reduceEqDiff, Nat.reduceAdd, Nat.reduceMul, Nat.reduceLT, Nat.reduceBEq, Nat.reduceLeDiff, Nat.reduceSub]) (fun _ h => by cases h) ⟨rfl, fun _ h => by cases h⟩)
        · have hsa' : s.since = s.at_ := by omega
          have hq : lz s.lost s.since s.at_ = s.lost := if_neg hsa
          have hzl : (lz s.lost s.since (s.at_ + 1)).length = s.lost.length + 1 := by rw [hz, List.length_append]; rfl
          have hs1 : rows eR2 s.lost ++ [Value.int .i64 s.at_, .int .i64 s.at_] = rows eR2 (lz s.lost s.since (s.at_ + 1)) := by rw [hz, rows_append, rows_one, hsa']
          have hsz : (rows eR2 s.lost).length = s.lost.length * 2 := rows_len _
          simp only [hq]
          by_cases hk0 : s.lost.length = 0
          · have hc0 : ¬ (0 : Int) < (s.lost.length : Int) := by omega
            refine ITri.reg pok ?_; simp -implicitDefEqProofs (disch := first | decide | exact of_eq_true (eq_true rfl) | omega | assumption) only [hc0, decide_false,  ↓vcD, vcE, ↓vcG, vcF, evs, evP, evB, intsOf, fillC, Value.cells, pt, Value.oneCell', reduceIte, reduceCtorEq, Nat.reduceEqDiff, Nat.reduceAdd, Nat.reduceMul, Nat.reduceLT, Nat.reduceBEq, Nat.reduceLeDiff, Nat.reduceSub] -- r10
            refine ITri.cond (v := false) rfl (fun h => by cases h) (fun _ => ?_)
            refine ITri.reg pok ?_; simp -implicitDefEqProofs (disch := first | decide | exact of_eq_true (eq_true rfl) | omega | assumption) only [hsz, hs1,  ↓vcD, vcE, ↓vcG, vcF, evs, evP, evB, intsOf, fillC, Value.cells, pt, Value.oneCell', reduceIte, reduceCtorEq, Nat.reduceEqDiff, Nat.reduceAdd, Nat.reduceMul, Nat.reduceLT, Nat.reduceBEq, Nat.reduceLeDiff, Nat.reduceSub] -- r12
            refine ITri.reg pok ?_; simp -implicitDefEqProofs (disch := first | decide | exact of_eq_true (eq_true rfl) | omega | assumption) only [hk1,  ↓vcD, vcE, ↓vcG, vcF, evs, evP, evB, intsOf, fillC, Value.cells, pt, Value.oneCell', reduceIte, reduceCtorEq, Nat.reduceEqDiff, Nat.reduceAdd, Nat.reduceMul, Nat.reduceLT, Nat.reduceBEq, Nat.reduceLeDiff, Nat.reduceSub] -- r13
            refine CutQ.mk ⟨s.at_ + 1, s.since, s.found, s.lost⟩ J2 ?_
            simp only [hzl]
            exact (Wk.gc [0, 1, 2, 7] [] (of_decide_eq_true rfl) (of_decide_eq_true rfl) rfl rfl (of_decide_eq_true rfl) rfl rfl (fun _ h => by cases h) rfl (by simp -implicitDefEqProofs (disch := first | decide | exact of_eq_true (eq_true rfl) | omega | assumption) only [objOK, sgL, xiL, objAt, nilO, OM, mvL, mv, mvS, okS, okP, mvL_rows, okML, okM, okML_rows, List.getElem?_cons_zero, Option.getD_some, implies_true, imp_self, ne_eq, and_self, ↓vcD, vcE, ↓vcG, vcF, evs, evP, evB, intsOf, fillC, Value.cells, pt, Value.oneCell', reduceIte, reduceCtorEq, Nat.reduceEqDiff, Nat.reduceAdd, Nat.reduceMul, Nat.reduceLT, Nat.reduceBEq, Nat.reduceLeDiff, Nat.reduceSub]) (by simp -implicitDefEqProofs (disch := first | decide | exact of_eq_true (eq_true rfl) | omega | assumption) only [ valOK, sgL, xiL, mv, mvA, mvL, mvS, okS, okP, okM, okMA, okML, Option.getD_some, implies_true, and_self, Int.natCast_add, Int.cast_ofNat_Int, ↓vcD, vcE, ↓vcG, vcF, evs, evP, evB, intsOf, fillC, Value.cells, pt, Value.oneCell', reduceIte, reduceCtorEq, Nat.reduceEqDiff, Nat.reduceAdd, Nat.reduceMul, Nat.reduceLT, Nat.reduceBEq, Nat.reduceLeDiff, Nat.reduceSub]) (fun _ h => by cases h) ⟨rfl, fun _ h => by cases h⟩)
          · obtain ⟨k, hk⟩ : ∃ k, s.lost.length = k + 1 := ⟨s.lost.length - 1, by omega⟩
            have hix : k < s.lost.length := by omega
            have hg := rows_get (f := eR2) (j := 1) hix (by decide)
            have hhi := j3 _ (nth_mem hix)
            have hc0 : (0 : Int) < ((s.lost.length : Nat) : Int) := by omega
            have hc1 : ((s.lost.length : Nat) : Int) - 1 = (k : Int) := by omega
            generalize nth s.lost k = p at *
            have hne : ¬ p.2 = (s.at_ : Int) - 1 := by omega
            refine ITri.reg pok ?_; simp -implicitDefEqProofs (disch := first | decide | exact of_eq_true (eq_true rfl) | omega | assumption) only [hc0, hc1, hg, hne, decide_true, decide_false,  ↓vcD, vcE, ↓vcG, vcF, evs, evP, evB, intsOf, fillC, Value.cells, pt, Value.oneCell', reduceIte, reduceCtorEq, Nat.reduceEqDiff, Nat.reduceAdd, Nat.reduceMul, Nat.reduceLT, Nat.reduceBEq, Nat.reduceLeDiff, Nat.reduceSub] -- r10
            refine ITri.cond (v := false) rfl (fun h => by cases h) (fun _ => ?_)
            refine ITri.reg pok ?_; simp -implicitDefEqProofs (disch := first | decide | exact of_eq_true (eq_true rfl) | omega | assumption) only [hsz, hs1,  ↓vcD, vcE, ↓vcG, vcF, evs, evP, evB, intsOf, fillC, Value.cells, pt, Value.oneCell', reduceIte, reduceCtorEq, Nat.reduceEqDiff, Nat.reduceAdd, Nat.reduceMul, Nat.reduceLT, Nat.reduceBEq, Nat.reduceLeDiff, Nat.reduceSub] -- r12
            refine ITri.reg pok ?_; simp -implicitDefEqProofs (disch := first | decide | exact of_eq_true (eq_true rfl) | omega | assumption) only [hk1,  ↓vcD, vcE, ↓vcG, vcF, evs, evP, evB, intsOf, fillC, Value.cells, pt, Value.oneCell', reduceIte, reduceCtorEq, Nat.reduceEqDiff, Nat.reduceAdd, Nat.reduceMul, Nat.reduceLT, Nat.reduceBEq, Nat.reduceLeDiff, Nat.reduceSub] -- r13
            refine CutQ.mk ⟨s.at_ + 1, s.since, s.found, s.lost⟩ J2 ?_
            simp only [hzl]
            exact (Wk.gc [0, 1, 2, 7] [] (of_decide_eq_true rfl) (of_decide_eq_true rfl) rfl rfl (of_decide_eq_true rfl) rfl rfl (fun _ h => by cases h) rfl (by simp -implicitDefEqProofs (disch := first | decide | exact of_eq_true (eq_true rfl) | omega | assumption) only [objOK, sgL, xiL, objAt, nilO, OM, mvL, mv, mvS, okS, okP, mvL_rows, okML, okM, okML_rows, List.getElem?_cons_zero, Option.getD_some, implies_true, imp_self, ne_eq, and_self, ↓vcD, vcE, ↓vcG, vcF, evs, evP, evB, intsOf, fillC, Value.cells, pt, Value.oneCell', reduceIte, reduceCtorEq, Nat.reduceEqDiff, Nat.reduceAdd, Nat.reduceMul, Nat.reduceLT, Nat.reduceBEq, Nat.reduceLeDiff, Nat.reduceSub]) (by simp -implicitDefEqProofs (disch := first | decide | exact of_eq_true (eq_true rfl) | omega | assumption) only [ valOK, sgL, xiL, mv, mvA, mvL, mvS, okS, okP, okM, okMA, okML, Option.getD_some, implies_true, and_self, Int.natCast_add, Int.cast_ofNat_Int, ↓vcD, vcE, ↓vcG, vcF, evs, evP, evB, intsOf, fillC, Value.cells, pt, Value.oneCell', reduceIte, reduceCtorEq, Nat.reduceEqDiff, Nat.reduceAdd, Nat.reduceMul, Nat.reduceLT, Nat.reduceBEq, Nat.reduceLeDiff, Nat.reduceSub]) (fun _ h => by cases h) ⟨rfl, fun _ h => by cases h⟩)
    exact LoopQ.next i hi.1 (by have := hi.1.2.1; omega) (Wk.sub ⟨rfl, rfl, rfl, rfl, trivial⟩)
  refine ITri.exit ?_; try simp -implicitDefEqProofs (disch := first | decide | exact of_eq_true (eq_true rfl) | omega | assumption) only [ ↓vcD, vcE, ↓vcG, vcF, evs, evP, evB, intsOf, fillC, Value.cells, pt, Value.oneCell', reduceIte, reduceCtorEq, Nat.reduceEqDiff, Nat.reduceAdd, Nat.reduceMul, Nat.reduceLT, Nat.reduceBEq, Nat.reduceLeDiff, Nat.reduceSub]
  have hE := sc_end J (by omega)
  have e1 : scF xs = s.found := by rw [scF, if_neg (by omega), ← hE]
  have e2 : scL xs = lz s.lost s.since s.at_ := by rw [scL, if_neg (by omega), ← hE]
  rw [e1, e2, e3]
  refine ITri.seq ?_
  refine ITri.reg pok ?_; simp -implicitDefEqProofs (disch := first | decide | exact of_eq_true (eq_true rfl) | omega | assumption) only [ ↓vcD, vcE, ↓vcG, vcF, evs, evP, evB, intsOf, fillC, Value.cells, pt, Value.oneCell', reduceIte, reduceCtorEq, Nat.reduceEqDiff, Nat.reduceAdd, Nat.reduceMul, Nat.reduceLT, Nat.reduceBEq, Nat.reduceLeDiff, Nat.reduceSub] -- r14 ref.go:169
  refine ITri.ret ?_
  exact end_two (k := 2) (k2 := 3) (by decide) (by decide) (by decide) (rows_no (f := eF3) _) (rows_no (f := eR2) _) rfl rfl (resF_tmp rfl (resF_tmp rfl (resF_tmp rfl resF_nil)))
end Go.Proofs.YtgjokhodccacoaaDoor
