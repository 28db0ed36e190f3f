import Derived.Test.YtgjokhodccacoaaDoorSRecX5
set_option linter.unusedSimpArgs false
set_option linter.unusedVariables false
namespace Go.Proofs.YtgjokhodccacoaaDoor
open Go.RowKit Go.Vm
set_option maxRecDepth 100000
def ir38_r0 : IC := .reg [⟨some 1, none, false, .box (.t 0)⟩,
 ⟨some 2, none, false, .mv (.k (.slice none 0 0))⟩,
 ⟨some 3, none, false, .mv (.k (.int .i64 0))⟩] (some [1])
def ir38_r1 : IC := .reg [⟨some 7, none, false, .lda 3 (.t 1)⟩,
 ⟨some 8, none, false, .call (.f 39) [(.t 7)]⟩,
 ⟨some 9, none, false, .not (.t 8)⟩] (some [1, 9])
def ir38_r2 : IC := .reg [⟨some 2, none, false, .mv (.k (.slice none 0 0))⟩,
 ⟨some 3, none, false, .mv (.k (.int .i64 2))⟩] (some [2, 3])
def ir38_1 : IC := .seq ir38_r2 .ret
def ir38_2 : IC := .cond (.t 9) ir38_1 .skip
def ir38_3 : IC := .seq ir38_r1 ir38_2
def ir38_r3 : IC := .reg [⟨some 10, none, false, .fad 0 (.t 1)⟩,
 ⟨some 11, none, false, .ldc (.t 10)⟩,
 ⟨some 12, none, false, .fad 1 (.t 1)⟩,
 ⟨some 13, none, false, .ldc (.t 12)⟩,
 ⟨some 14, none, false, .bsl 1 2 [(.int .i64 0), (.int .i64 0)] [(0, (.t 11)), (1, (.t 13))]⟩,
 ⟨some 15, none, false, .call (.f 80) [(.t 14)]⟩,
 ⟨some 4, none, false, .mv (.t 15)⟩] (some [1, 4])
def ir38_r4 : IC := .reg [⟨some 5, none, false, .mv (.k (.int .i64 0))⟩] (some [1, 4, 5])
def ir38_r5 : IC := .reg [⟨some 16, none, false, .mv (.t 5)⟩,
 ⟨some 17, none, false, .fad 2 (.t 1)⟩,
 ⟨some 18, none, false, .ldc (.t 17)⟩,
 ⟨some 19, none, false, .len (.t 18)⟩,
 ⟨some 20, none, false, .cmp .lss (.t 16) (.t 19)⟩] (some [1, 4, 5, 20])
def ir38_4 : IC := .cond (.t 20) .skip (.exit 0)
def ir38_5 : IC := .seq ir38_r5 ir38_4
def ir38_r6 : IC := .reg [⟨some 6, none, false, .mv (.k (.int .i64 1))⟩] (some [1, 4, 5, 6])
def ir38_r7 : IC := .draw [(⟨some 21, none, false, .mv (.t 5)⟩, false, 0, 0),
 (⟨some 22, none, false, .mv (.t 6)⟩, false, 0, 0),
 (⟨some 23, none, false, .ar .add (.t 21) (.t 22)⟩, false, 3, 0),
 (⟨some 24, none, false, .fad 2 (.t 1)⟩, false, 0, 0),
 (⟨some 25, none, false, .ldc (.t 24)⟩, true, 8, 0),
 (⟨some 26, none, false, .len (.t 25)⟩, true, 24, 0),
 (⟨some 27, none, false, .cmp .lss (.t 23) (.t 26)⟩, false, 63, 0),
 (⟨some 28, none, false, .mv (.t 27)⟩, false, 127, 0),
 (⟨some 29, some (28, true), false, .fad 2 (.t 1)⟩, false, 255, 0),
 (⟨some 30, some (28, true), false, .ldc (.t 29)⟩, false, 511, 1),
 (⟨some 31, some (28, true), false, .mv (.t 5)⟩, false, 255, 0),
 (⟨some 32, some (28, true), false, .mv (.t 6)⟩, false, 255, 0),
 (⟨some 33, some (28, true), false, .ar .add (.t 31) (.t 32)⟩, false, 3327, 0),
 (⟨some 34, some (28, true), false, .iad 1 (.t 30) (.t 33)⟩, false, 8191, 0),
 (⟨some 35, some (28, true), false, .ldc (.t 34)⟩, false, 16383, 1),
 (⟨some 36, some (28, true), false, .fad 2 (.t 1)⟩, false, 255, 0),
 (⟨some 37, some (28, true), false, .ldc (.t 36)⟩, false, 33023, 16384),
 (⟨some 38, some (28, true), false, .mv (.t 5)⟩, false, 255, 0),
 (⟨some 39, some (28, true), false, .iad 1 (.t 37) (.t 38)⟩, false, 229631, 0),
 (⟨some 40, some (28, true), false, .ldc (.t 39)⟩, false, 491775, 16384),
 (⟨some 41, some (28, true), false, .cmp .eql (.t 35) (.t 40)⟩, false, 1048575, 0),
 (⟨some 42, none, false, .pick (.t 28) (.t 41) (.k (.bool false))⟩, false, 2097151, 0)] (some [1, 4, 5, 6, 42])
def ir38_6 : IC := .cond (.t 42) .skip (.exit 2)
def ir38_7 : IC := .seq ir38_r7 ir38_6
def ir38_r8 : IC := .reg [⟨some 43, none, false, .mv (.t 6)⟩,
 ⟨some 44, none, false, .ar .add (.t 43) (.k (.int .i64 1))⟩,
 ⟨some 6, none, false, .mv (.t 44)⟩] (some [1, 4, 5, 6])
def ir38_8 : IC := .block 3 ir38_r8
def ir38_9 : IC := .seq ir38_7 ir38_8
def ir38_10 : IC := .loop ir38_9
def ir38_11 : IC := .block 2 ir38_10
def ir38_r9 : IC := .reg [⟨some 45, none, false, .mv (.t 4)⟩,
 ⟨some 46, none, false, .mv (.t 6)⟩,
 ⟨some 47, none, false, .ar .sub (.t 46) (.k (.int .i64 1))⟩,
 ⟨some 48, none, false, .ar .mul (.k (.int .i64 8)) (.t 47)⟩,
 ⟨some 49, none, false, .fad 2 (.t 1)⟩,
 ⟨some 50, none, false, .ldc (.t 49)⟩,
 ⟨some 51, none, false, .mv (.t 5)⟩,
 ⟨some 52, none, false, .iad 1 (.t 50) (.t 51)⟩,
 ⟨some 53, none, false, .ldc (.t 52)⟩,
 ⟨some 54, none, false, .ar .add (.t 48) (.t 53)⟩,
 ⟨some 55, none, false, .call (.f 92) [(.t 54)]⟩,
 ⟨some 56, none, false, .app 1 1 (.t 45) (.t 55)⟩,
 ⟨some 4, none, false, .mv (.t 56)⟩] (some [1, 4, 5, 6])
def ir38_r10 : IC := .reg [⟨some 57, none, false, .mv (.t 5)⟩,
 ⟨some 58, none, false, .mv (.t 6)⟩,
 ⟨some 59, none, false, .ar .add (.t 57) (.t 58)⟩,
 ⟨some 5, none, false, .mv (.t 59)⟩] (some [1, 4, 5])
def ir38_12 : IC := .seq ir38_r9 ir38_r10
def ir38_13 : IC := .seq ir38_11 ir38_12
def ir38_14 : IC := .seq ir38_r6 ir38_13
def ir38_15 : IC := .block 1 ir38_14
def ir38_16 : IC := .seq ir38_5 ir38_15
def ir38_17 : IC := .loop ir38_16
def ir38_18 : IC := .block 0 ir38_17
def ir38_19 : IC := .seq ir38_r4 ir38_18
def ir38_r11 : IC := .reg [⟨some 60, none, false, .bsl 1 4 [(.int .u8 0), (.int .u8 0), (.int .u8 0), (.int .u8 0)] [(0, (.k (.int .u8 87))), (1, (.k (.int .u8 77))), (2, (.k (.int .u8 80))), (3, (.k (.int .u8 49)))]⟩,
 ⟨some 61, none, false, .gen (.convert 22 22 (.tmp 60))⟩,
 ⟨some 62, none, false, .mv (.t 4)⟩,
 ⟨some 63, none, false, .call (.f 64) [(.k (.int .i64 6)), (.t 62)]⟩,
 ⟨some 64, none, false, .app 1 1 (.t 61) (.t 63)⟩,
 ⟨some 2, none, false, .mv (.t 64)⟩,
 ⟨some 3, none, false, .mv (.k (.int .i64 0))⟩] (some [2, 3])
def ir38_20 : IC := .seq ir38_r11 .ret
def ir38_21 : IC := .seq ir38_19 ir38_20
def ir38_22 : IC := .seq ir38_r3 ir38_21
def ir38_23 : IC := .seq ir38_3 ir38_22
def ir38_24 : IC := .seq ir38_r0 ir38_23
def ir38 : IC := ir38_24
theorem fn38 : FnIs Tryd.prog 38 ir38 65 [.tmp 2, .tmp 3] := ⟨Tryd.f38, Tryd.f38.body.getD .skip, Tryd.func38, by kernel_rfl, by kernel_rfl, by kernel_rfl, by kernel_rfl⟩
theorem wrtn2 {W H : Nat} : wrtn [(W : Int), (H : Int)] = groups W ++ groups H := by
 show groups _ ++ (groups _ ++ []) = _
 rw [List.append_nil, Int.toNat_natCast, Int.toNat_natCast]
theorem rmap_r7 {bb n c o m : Nat} {W H : Int} {xs acc : List Int} (hn : xs.length = n) (hb : n ≤ 1000000) (ho : o < n) (hm : m ≤ runL (xs.drop o)) :
    ITri Tryd.prog 65 none bb ir38_r7 [(1, pt 2), (4, sO 3 acc.length), (5, .int .i64 o), (6, .int .i64 m)] [] (Hp 2 [none, srI xs, some (.cells ⟨[.int .i64 W, .int .i64 H, .slice (some ⟨1, 0, none⟩) n c], 1, false⟩), opR acc]) (AtF [(1, pt 2), (4, sO 3 acc.length), (5, .int .i64 o), (6, .int .i64 m), (42, .bool (decide (m < runL (xs.drop o))))] (Hp 2 [none, srI xs, some (.cells ⟨[.int .i64 W, .int .i64 H, .slice (some ⟨1, 0, none⟩) n c], 1, false⟩), opR acc])) := by
 have hyl : (xs.drop o).length = n - o := by rw [List.length_drop, hn]
 have hy0 : xs.drop o ≠ [] := fun e => by rw [e] at hyl; simp at hyl; omega
 have hr := run_pos hy0
 have hg0 := getN (show o < xs.length by omega)
 have ho' : (o : Int) < n := by omega
 have e0 : nth (xs.drop o) 0 = nth xs o := by rw [nth_drop, Nat.add_zero]
 have hom : (o : Int) + m = ((o + m : Nat) : Int) := by omega
 by_cases hlt : o + m < n
 ·have hlt' : ((o + m : Nat) : Int) < n := by omega
  have hg1 := getN (show o + m < xs.length by omega)
  have hv : decide (nth xs (o + m) = nth xs o) = decide (m < runL (xs.drop o)) := by
   by_cases hmr : m < runL (xs.drop o)
   ·have := run_in hmr
    rw [nth_drop, e0] at this
    rw [decide_eq_true this, decide_eq_true hmr]
   ·have := run_out (ys := xs.drop o) (by omega)
    rw [show runL (xs.drop o) = m by omega, nth_drop, e0] at this
    rw [decide_eq_false this, decide_eq_false hmr]
  refine ITri.draw pok ?_; simp -implicitDefEqProofs (disch := first | decide | exact of_eq_true (eq_true rfl) | omega | assumption) only [hom, hlt', decide_true, hg1, hg0, ho', Int.toNat_natCast, Nat.mul_one, hv,  ↓vcD, vcE, ↓vcG, vcF, evs, evP, evB, intsOf, fillC, Value.cells, pt, Value.oneCell', reduceIte, reduceCtorEq, Nat.reduceEqDiff, Nat.reduceAdd, Nat.reduceMul, Nat.reduceLT, Nat.reduceBEq, Nat.reduceLeDiff, Nat.reduceSub]
  exact AtF.mk ⟨rfl, rfl, rfl, rfl, rfl, trivial⟩
 ·have hlt' : ¬ ((o + m : Nat) : Int) < n := by omega
  have hv : decide (m < runL (xs.drop o)) = false := decide_eq_false (by omega)
  rw [hv]
  refine ITri.draw pok ?_; simp -implicitDefEqProofs (disch := first | decide | exact of_eq_true (eq_true rfl) | omega | assumption) only [hom, hlt', decide_false,  ↓vcD, vcE, ↓vcG, vcF, evs, evP, evB, intsOf, fillC, Value.cells, pt, Value.oneCell', reduceIte, reduceCtorEq, Nat.reduceEqDiff, Nat.reduceAdd, Nat.reduceMul, Nat.reduceLT, Nat.reduceBEq, Nat.reduceLeDiff, Nat.reduceSub]
  exact AtF.mk ⟨rfl, rfl, rfl, rfl, rfl, trivial⟩
theorem rmap_c (n c : Nat) (W H : Int) (xs : List Int) (hn : xs.length = n) (hb : n ≤ 1000000) :
    Fc Tryd.prog 38 [mV 1 n c W H] (Hp 2 [none, srI xs]) (.tuple #[sO 2 (mapX W H xs).length, .int .i64 (mE W H xs)]) ((Hp 2 [none, srI xs]).news [.cells ⟨rows eB (mapX W H xs), 1, true⟩]) := by
 refine Fc.introR fn38 (by simp) rfl rfl ?_; simp only [argF]
 refine ITri.seq ?_
 refine ITri.reg pok ?_; simp -implicitDefEqProofs (disch := first | decide | exact of_eq_true (eq_true rfl) | omega | assumption) only [ ↓vcD, vcE, ↓vcG, vcF, evs, evP, evB, intsOf, fillC, Value.cells, pt, Value.oneCell', reduceIte, reduceCtorEq, Nat.reduceEqDiff, Nat.reduceAdd, Nat.reduceMul, Nat.reduceLT, Nat.reduceBEq, Nat.reduceLeDiff, Nat.reduceSub]
 refine ITri.seq ?_
 refine ITri.seq ?_
 cases h1 : mOK W H xs with
 | false =>
  have e : mE W H xs = 2 := by unfold mE; rw [h1]; rfl
  have ex : mapX W H xs = [] := by unfold mapX; rw [h1]; rfl
  refine ITri.reg pok ?_; simp -implicitDefEqProofs (disch := first | decide | exact of_eq_true (eq_true rfl) | omega | assumption) only [ ↓vcD, vcE, ↓vcG, vcF, evs, evP, evB, intsOf, fillC, Value.cells, pt, Value.oneCell', reduceIte, reduceCtorEq, Nat.reduceEqDiff, Nat.reduceAdd, Nat.reduceMul, Nat.reduceLT, Nat.reduceBEq, Nat.reduceLeDiff, Nat.reduceSub]
  refine ⟨_, _, map_f hn hb (sees0 rfl (of_decide_eq_true rfl)) (get_hq rfl rfl), ?_⟩
  rw [h1, e, ex]
  simp -implicitDefEqProofs (disch := first | decide | exact of_eq_true (eq_true rfl) | omega | assumption) only [Bool.not_false,  ↓vcD, vcE, ↓vcG, vcF, evs, evP, evB, intsOf, fillC, Value.cells, pt, Value.oneCell', reduceIte, reduceCtorEq, Nat.reduceEqDiff, Nat.reduceAdd, Nat.reduceMul, Nat.reduceLT, Nat.reduceBEq, Nat.reduceLeDiff, Nat.reduceSub]
  refine ITri.cond (v := true) rfl (fun _ => ?_) (fun h => by cases h)
  refine ITri.seq ?_
  refine ITri.reg pok ?_; simp -implicitDefEqProofs (disch := first | decide | exact of_eq_true (eq_true rfl) | omega | assumption) only [ ↓vcD, vcE, ↓vcG, vcF, evs, evP, evB, intsOf, fillC, Value.cells, pt, Value.oneCell', reduceIte, reduceCtorEq, Nat.reduceEqDiff, Nat.reduceAdd, Nat.reduceMul, Nat.reduceLT, Nat.reduceBEq, Nat.reduceLeDiff, Nat.reduceSub]
  refine ITri.ret ?_
  exact end_nil (mk := fun s => .tuple #[s, .int .i64 2]) (mvP 2) (resF_tmp rfl (resF_tmp rfl resF_nil)) rfl
 | true =>
  have e : mE W H xs = 0 := by unfold mE; rw [h1]; rfl
  have ex : mapX W H xs = mapB W.toNat H.toNat xs := by unfold mapX; rw [h1]; rfl
  refine ITri.reg pok ?_; simp -implicitDefEqProofs (disch := first | decide | exact of_eq_true (eq_true rfl) | omega | assumption) only [ ↓vcD, vcE, ↓vcG, vcF, evs, evP, evB, intsOf, fillC, Value.cells, pt, Value.oneCell', reduceIte, reduceCtorEq, Nat.reduceEqDiff, Nat.reduceAdd, Nat.reduceMul, Nat.reduceLT, Nat.reduceBEq, Nat.reduceLeDiff, Nat.reduceSub]
  refine ⟨_, _, map_f hn hb (sees0 rfl (of_decide_eq_true rfl)) (get_hq rfl rfl), ?_⟩
  obtain ⟨w, h, rfl, rfl, a1, a2, a3, a4, a5, a6, h7⟩ := mOK_of h1
  obtain ⟨p1, p2, p3⟩ := mapP_ok a2 a4 h7 (by omega)
  rw [h1, e, ex]
  rw [Int.toNat_natCast, Int.toNat_natCast]
  simp -implicitDefEqProofs (disch := first | decide | exact of_eq_true (eq_true rfl) | omega | assumption) only [Bool.not_true,  ↓vcD, vcE, ↓vcG, vcF, evs, evP, evB, intsOf, fillC, Value.cells, pt, Value.oneCell', reduceIte, reduceCtorEq, Nat.reduceEqDiff, Nat.reduceAdd, Nat.reduceMul, Nat.reduceLT, Nat.reduceBEq, Nat.reduceLeDiff, Nat.reduceSub]
  refine ITri.cond (v := false) rfl (fun h => by cases h) (fun _ => ?_); refine ITri.skip ?_; simp only [SeqQ_normal, BlkQ_normal]
  refine ITri.seq ?_
  refine ITri.reg pok ?_; simp -implicitDefEqProofs (disch := first | decide | exact of_eq_true (eq_true rfl) | omega | assumption) only [ ↓vcD, vcE, ↓vcG, vcF, evs, evP, evB, intsOf, fillC, Value.cells, pt, Value.oneCell', reduceIte, reduceCtorEq, Nat.reduceEqDiff, Nat.reduceAdd, Nat.reduceMul, Nat.reduceLT, Nat.reduceBEq, Nat.reduceLeDiff, Nat.reduceSub]
  refine ⟨_, _, written_f (ns := [(w : Int), (h : Int)]) rfl (fun x hx => by
   simp only [List.mem_cons, List.not_mem_nil, or_false] at hx
   rcases hx with rfl | rfl <;> omega) (by decide) (sees0 rfl (of_decide_eq_true rfl)) (get_hq rfl rfl), ?_⟩
  rw [wrtn2]
  simp -implicitDefEqProofs (disch := first | decide | exact of_eq_true (eq_true rfl) | omega | assumption) only [news_c, news_n,  ↓vcD, vcE, ↓vcG, vcF, evs, evP, evB, intsOf, fillC, Value.cells, pt, Value.oneCell', reduceIte, reduceCtorEq, Nat.reduceEqDiff, Nat.reduceAdd, Nat.reduceMul, Nat.reduceLT, Nat.reduceBEq, Nat.reduceLeDiff, Nat.reduceSub]
  refine ITri.seq ?_
  refine ITri.seq ?_
  refine ITri.reg pok ?_; simp -implicitDefEqProofs (disch := first | decide | exact of_eq_true (eq_true rfl) | omega | assumption) only [ ↓vcD, vcE, ↓vcG, vcF, evs, evP, evB, intsOf, fillC, Value.cells, pt, Value.oneCell', reduceIte, reduceCtorEq, Nat.reduceEqDiff, Nat.reduceAdd, Nat.reduceMul, Nat.reduceLT, Nat.reduceBEq, Nat.reduceLeDiff, Nat.reduceSub]
  refine ITri.block ?_
  refine ITri.loop (fun s : Nat × List Int => [(1, pt 2), (4, sO 3 s.2.length), (5, .int .i64 s.1)]) (fun _ => []) (fun s => Hp 2 [none, srI xs, some (.cells ⟨[.int .i64 w, .int .i64 h, .slice (some ⟨1, 0, none⟩) n c], 1, false⟩), opR s.2]) (fun s => s.1 ≤ n ∧ s.2 ++ rlB (xs.drop s.1) = mapP w h xs) (fun s => n - s.1) (0, groups w ++ groups h) ⟨Nat.zero_le _, by rw [List.drop_zero]; rfl⟩ (Wk.gc [0, 1, 2, 4] [] (of_decide_eq_true rfl) (of_decide_eq_true rfl) rfl rfl (of_decide_eq_true rfl) rfl rfl (fun _ h => by cases h) rfl (by simp -implicitDefEqProofs (disch := first | decide | exact of_eq_true (eq_true rfl) | omega | assumption) only [objOK, sgL, xiL, objAt, nilO, OM, mvL, mv, mvS, okS, okP, mvL_rows, okML, okM, okML_rows, List.getElem?_cons_zero, Option.getD_some, implies_true, imp_self, ne_eq, and_self, ↓vcD, vcE, ↓vcG, vcF, evs, evP, evB, intsOf, fillC, Value.cells, pt, Value.oneCell', reduceIte, reduceCtorEq, Nat.reduceEqDiff, Nat.reduceAdd, Nat.reduceMul, Nat.reduceLT, Nat.reduceBEq, Nat.reduceLeDiff, Nat.reduceSub]) (by simp -implicitDefEqProofs (disch := first | decide | exact of_eq_true (eq_true rfl) | omega | assumption) only [ valOK, sgL, xiL, mv, mvA, mvL, mvS, okS, okP, okM, okMA, okML, Option.getD_some, implies_true, and_self, Int.natCast_add, Int.cast_ofNat_Int, ↓vcD, vcE, ↓vcG, vcF, evs, evP, evB, intsOf, fillC, Value.cells, pt, Value.oneCell', reduceIte, reduceCtorEq, Nat.reduceEqDiff, Nat.reduceAdd, Nat.reduceMul, Nat.reduceLT, Nat.reduceBEq, Nat.reduceLeDiff, Nat.reduceSub]) (fun _ h => by cases h) ⟨rfl, fun _ h => by cases h⟩) fun s hs => ?_
  obtain ⟨o, acc⟩ := s
  obtain ⟨i1, i2⟩ := hs
  simp only at i1 i2
  refine ITri.seq ?_
  refine ITri.seq ?_
  refine ITri.reg pok ?_; simp -implicitDefEqProofs (disch := first | decide | exact of_eq_true (eq_true rfl) | omega | assumption) only [ ↓vcD, vcE, ↓vcG, vcF, evs, evP, evB, intsOf, fillC, Value.cells, pt, Value.oneCell', reduceIte, reduceCtorEq, Nat.reduceEqDiff, Nat.reduceAdd, Nat.reduceMul, Nat.reduceLT, Nat.reduceBEq, Nat.reduceLeDiff, Nat.reduceSub]
  refine ITri.condD (by rfl) (fun h3 => ?_) (fun h3 => ?_)
  ·have hyl : (xs.drop o).length = n - o := by rw [List.length_drop, hn]
   have hy0 : xs.drop o ≠ [] := fun e => by rw [e] at hyl; simp at hyl; omega
   have hr := run_pos hy0
   have e0 : nth (xs.drop o) 0 = nth xs o := by rw [nth_drop, Nat.add_zero]
   have hcd := code_lt (is7_drop h7) hy0
   have hstep := rlB_step hy0
   refine ITri.skip ?_; simp only [SeqQ_normal, BlkQ_normal]
   refine ITri.block ?_
   refine ITri.seq ?_
   refine ITri.reg pok ?_; simp -implicitDefEqProofs (disch := first | decide | exact of_eq_true (eq_true rfl) | omega | assumption) only [ ↓vcD, vcE, ↓vcG, vcF, evs, evP, evB, intsOf, fillC, Value.cells, pt, Value.oneCell', reduceIte, reduceCtorEq, Nat.reduceEqDiff, Nat.reduceAdd, Nat.reduceMul, Nat.reduceLT, Nat.reduceBEq, Nat.reduceLeDiff, Nat.reduceSub]
   refine ITri.seq ?_
   refine ITri.block ?_
   refine ITri.loop (fun m : Nat => [(1, pt 2), (4, sO 3 acc.length), (5, .int .i64 o), (6, .int .i64 m)]) (fun _ => []) (fun m => Hp 2 [none, srI xs, some (.cells ⟨[.int .i64 w, .int .i64 h, .slice (some ⟨1, 0, none⟩) n c], 1, false⟩), opR acc]) (fun m => 1 ≤ m ∧ m ≤ runL (xs.drop o)) (fun m => n - m) 1 ⟨Nat.le_refl _, hr.1⟩ (Wk.sub ⟨rfl, rfl, rfl, rfl, trivial⟩) fun m hm => ?_
   refine ITri.seq ?_
   refine ITri.seq ?_
   refine ITri.atF (rmap_r7 hn hb (by omega) hm.2) ?_
   simp only [SeqQ_normal, BlkQ_normal]
   refine ITri.condD (by rfl) (fun h5 => ?_) (fun h5 => ?_)
   ·have hm1 : (m : Int) + 1 = ((m + 1 : Nat) : Int) := by omega
    refine ITri.skip ?_; simp only [SeqQ_normal, BlkQ_normal]
    refine ITri.block ?_
    refine ITri.reg pok ?_; simp -implicitDefEqProofs (disch := first | decide | exact of_eq_true (eq_true rfl) | omega | assumption) only [hm1,  ↓vcD, vcE, ↓vcG, vcF, evs, evP, evB, intsOf, fillC, Value.cells, pt, Value.oneCell', reduceIte, reduceCtorEq, Nat.reduceEqDiff, Nat.reduceAdd, Nat.reduceMul, Nat.reduceLT, Nat.reduceBEq, Nat.reduceLeDiff, Nat.reduceSub]
    exact LoopQ.next (m + 1) ⟨by omega, by omega⟩ (by omega) (Wk.sub ⟨rfl, rfl, rfl, rfl, trivial⟩)
   refine ITri.exit ?_; try simp -implicitDefEqProofs (disch := first | decide | exact of_eq_true (eq_true rfl) | omega | assumption) only [ ↓vcD, vcE, ↓vcG, vcF, evs, evP, evB, intsOf, fillC, Value.cells, pt, Value.oneCell', reduceIte, reduceCtorEq, Nat.reduceEqDiff, Nat.reduceAdd, Nat.reduceMul, Nat.reduceLT, Nat.reduceBEq, Nat.reduceLeDiff, Nat.reduceSub]
   have hmr : runL (xs.drop o) = m := by omega
   rw [hmr, e0] at hcd hstep
   have hx := h7 _ (nth_mem (xs := xs) (i := o) (by omega))
   have hg := getN (show o < xs.length by omega)
   obtain ⟨x, hxx⟩ := Int.eq_ofNat_of_zero_le hx.1
   rw [hxx, Int.toNat_natCast] at hstep hcd
   rw [hxx] at hg
   have ho' : (o : Int) < n := by omega
   have hm1 : (m : Int) - 1 = ((m - 1 : Nat) : Int) := by omega
   have hc8 : 8 * ((m - 1 : Nat) : Int) + x = ((8 * (m - 1) + x : Nat) : Int) := by omega
   have hom : (o : Int) + m = ((o + m : Nat) : Int) := by omega
   obtain ⟨g1, g2⟩ := groups_len (N := 8 * (m - 1) + x) (by omega)
   have g0 : (groups (8 * (m - 1) + x)).length ≠ 0 := by omega
   have hT : takeC (rows eB (groups (8 * (m - 1) + x))) 0 (groups (8 * (m - 1) + x)).length = some (rows eB (groups (8 * (m - 1) + x))) := by
    rw [takeC_eq _ _ _ (by rw [rows_len]; omega), List.drop_zero, List.take_of_length_le (by rw [rows_len]; omega)]
   have hal : acc.length ≤ 100000 := by
    have := congrArg List.length i2
    rw [List.length_append] at this
    omega
   have htot : acc ++ groups (8 * (m - 1) + x) ++ rlB (xs.drop (o + m)) = mapP w h xs := by
    rw [← i2, hstep, List.drop_drop, List.append_assoc]
   refine ITri.seq ?_
   refine ITri.reg pok ?_; simp -implicitDefEqProofs (disch := first | decide | exact of_eq_true (eq_true rfl) | omega | assumption) only [hm1, hg, ho', Nat.mul_one, Int.toNat_natCast, hc8,  ↓vcD, vcE, ↓vcG, vcF, evs, evP, evB, intsOf, fillC, Value.cells, pt, Value.oneCell', reduceIte, reduceCtorEq, Nat.reduceEqDiff, Nat.reduceAdd, Nat.reduceMul, Nat.reduceLT, Nat.reduceBEq, Nat.reduceLeDiff, Nat.reduceSub]
   refine ⟨_, _, groups_f (by omega) (sees0 rfl (of_decide_eq_true rfl)), ?_⟩
   simp -implicitDefEqProofs (disch := first | decide | exact of_eq_true (eq_true rfl) | omega | assumption) only [news_c, news_n,  ↓vcD, vcE, ↓vcG, vcF, evs, evP, evB, intsOf, fillC, Value.cells, pt, Value.oneCell', reduceIte, reduceCtorEq, Nat.reduceEqDiff, Nat.reduceAdd, Nat.reduceMul, Nat.reduceLT, Nat.reduceBEq, Nat.reduceLeDiff, Nat.reduceSub]
   rw [appK_o rfl rfl (by rw [rows_len]) g0]
   simp -implicitDefEqProofs (disch := first | decide | exact of_eq_true (eq_true rfl) | omega | assumption) only [hT, rows_allT,  ↓vcD, vcE, ↓vcG, vcF, evs, evP, evB, intsOf, fillC, Value.cells, pt, Value.oneCell', reduceIte, reduceCtorEq, Nat.reduceEqDiff, Nat.reduceAdd, Nat.reduceMul, Nat.reduceLT, Nat.reduceBEq, Nat.reduceLeDiff, Nat.reduceSub]
   rw [← rows_append, ← List.length_append]
   refine ITri.reg pok ?_; simp -implicitDefEqProofs (disch := first | decide | exact of_eq_true (eq_true rfl) | omega | assumption) only [hom,  ↓vcD, vcE, ↓vcG, vcF, evs, evP, evB, intsOf, fillC, Value.cells, pt, Value.oneCell', reduceIte, reduceCtorEq, Nat.reduceEqDiff, Nat.reduceAdd, Nat.reduceMul, Nat.reduceLT, Nat.reduceBEq, Nat.reduceLeDiff, Nat.reduceSub]
   exact LoopQ.next (o + m, acc ++ groups (8 * (m - 1) + x)) ⟨by show o + m ≤ n; omega, htot⟩ (by show n - (o + m) < n - o; omega) (Wk.gc [0, 1, 2, 5] [] (of_decide_eq_true rfl) (of_decide_eq_true rfl) rfl rfl (of_decide_eq_true rfl) rfl rfl (fun _ h => by cases h) rfl (by simp -implicitDefEqProofs (disch := first | decide | exact of_eq_true (eq_true rfl) | omega | assumption) only [objOK, sgL, xiL, objAt, nilO, OM, mvL, mv, mvS, okS, okP, mvL_rows, okML, okM, okML_rows, List.getElem?_cons_zero, Option.getD_some, implies_true, imp_self, ne_eq, and_self, ↓vcD, vcE, ↓vcG, vcF, evs, evP, evB, intsOf, fillC, Value.cells, pt, Value.oneCell', reduceIte, reduceCtorEq, Nat.reduceEqDiff, Nat.reduceAdd, Nat.reduceMul, Nat.reduceLT, Nat.reduceBEq, Nat.reduceLeDiff, Nat.reduceSub]) (by simp -implicitDefEqProofs (disch := first | decide | exact of_eq_true (eq_true rfl) | omega | assumption) only [ valOK, sgL, xiL, mv, mvA, mvL, mvS, okS, okP, okM, okMA, okML, Option.getD_some, implies_true, and_self, Int.natCast_add, Int.cast_ofNat_Int, ↓vcD, vcE, ↓vcG, vcF, evs, evP, evB, intsOf, fillC, Value.cells, pt, Value.oneCell', reduceIte, reduceCtorEq, Nat.reduceEqDiff, Nat.reduceAdd, Nat.reduceMul, Nat.reduceLT, Nat.reduceBEq, Nat.reduceLeDiff, Nat.reduceSub]) (fun _ h => by cases h) ⟨rfl, fun _ h => by cases h⟩)
  refine ITri.exit ?_; try simp -implicitDefEqProofs (disch := first | decide | exact of_eq_true (eq_true rfl) | omega | assumption) only [ ↓vcD, vcE, ↓vcG, vcF, evs, evP, evB, intsOf, fillC, Value.cells, pt, Value.oneCell', reduceIte, reduceCtorEq, Nat.reduceEqDiff, Nat.reduceAdd, Nat.reduceMul, Nat.reduceLT, Nat.reduceBEq, Nat.reduceLeDiff, Nat.reduceSub]
  obtain rfl : o = n := by omega
  rw [List.drop_of_length_le (by omega), rlB_nil, List.append_nil] at i2
  subst i2
  have hf : (frB 6 (mapP w h xs)).length ≠ 0 := by rw [frB_len]; omega
  have hfl : (frB 6 (mapP w h xs)).length ≤ 200000 := by
   obtain ⟨g1, _⟩ := groups_len (N := (mapP w h xs).length) (by omega)
   rw [frB_len, frH_len]
   omega
  have hT : takeC (rows eB (frB 6 (mapP w h xs))) 0 (frB 6 (mapP w h xs)).length = some (rows eB (frB 6 (mapP w h xs))) := by
   rw [takeC_eq _ _ _ (by rw [rows_len]; omega), List.drop_zero, List.take_of_length_le (by rw [rows_len]; omega)]
  refine ITri.seq ?_
  refine ITri.reg pok ?_; simp -implicitDefEqProofs (disch := first | decide | exact of_eq_true (eq_true rfl) | omega | assumption) only [ ↓vcD, vcE, ↓vcG, vcF, evs, evP, evB, intsOf, fillC, Value.cells, pt, Value.oneCell', reduceIte, reduceCtorEq, Nat.reduceEqDiff, Nat.reduceAdd, Nat.reduceMul, Nat.reduceLT, Nat.reduceBEq, Nat.reduceLeDiff, Nat.reduceSub]
  refine gen_frz rfl rfl u_slB u_uint8 rfl (get_hq rfl rfl) (by show 2 ≤ 4; decide) rfl rfl ?_
  rw [Hq_put 4 _ (by show 4 < 5; decide)]
  simp -implicitDefEqProofs (disch := first | decide | exact of_eq_true (eq_true rfl) | omega | assumption) only [List.set_cons_succ, List.set_cons_zero,  ↓vcD, vcE, ↓vcG, vcF, evs, evP, evB, intsOf, fillC, Value.cells, pt, Value.oneCell', reduceIte, reduceCtorEq, Nat.reduceEqDiff, Nat.reduceAdd, Nat.reduceMul, Nat.reduceLT, Nat.reduceBEq, Nat.reduceLeDiff, Nat.reduceSub]
  refine ⟨_, _, rbytes_f (K := 6) rfl p3 (by decide) p2 (sees0 rfl (of_decide_eq_true rfl)) (get_hq rfl rfl), ?_⟩
  simp -implicitDefEqProofs (disch := first | decide | exact of_eq_true (eq_true rfl) | omega | assumption) only [news_c, news_n,  ↓vcD, vcE, ↓vcG, vcF, evs, evP, evB, intsOf, fillC, Value.cells, pt, Value.oneCell', reduceIte, reduceCtorEq, Nat.reduceEqDiff, Nat.reduceAdd, Nat.reduceMul, Nat.reduceLT, Nat.reduceBEq, Nat.reduceLeDiff, Nat.reduceSub]
  rw [appK_g rfl rfl rfl (by omega) (by unfold openB; omega) hf]
  simp -implicitDefEqProofs (disch := first | decide | exact of_eq_true (eq_true rfl) | omega | assumption) only [hT, rows_allT,  ↓vcD, vcE, ↓vcG, vcF, evs, evP, evB, intsOf, fillC, Value.cells, pt, Value.oneCell', reduceIte, reduceCtorEq, Nat.reduceEqDiff, Nat.reduceAdd, Nat.reduceMul, Nat.reduceLT, Nat.reduceBEq, Nat.reduceLeDiff, Nat.reduceSub]
  refine ITri.ret ?_
  have e3 : rows eB (mapB w h xs) = rows eB headM ++ rows eB (frB 6 (mapP w h xs)) := by unfold mapB; rw [rows_append]
  have e4 : (mapB w h xs).length = 4 + (frB 6 (mapP w h xs)).length := by unfold mapB; rw [List.length_append]; rfl
  rw [e4]
  exact end_mk (k := 6) (mk := fun s => .tuple #[s, .int .i64 0]) (mvP 0) (by decide) (rows_no (f := eB) _) (by rw [e3]; rfl) (resF_tmp rfl (resF_tmp rfl resF_nil)) rfl
theorem rmap_f {n c sz k : Nat} {op : Bool} {W H : Int} {xs : List Int} {h : AH} (hn : xs.length = n) (hb : n ≤ 1000000) (hs : h.sees 0 = true) (hg : h.get k = some (.cells ⟨rows eN xs, sz, op⟩)) :
    Fc Tryd.prog 38 [mV k n c W H] h (.tuple #[sO h.next (mapX W H xs).length, .int .i64 (mE W H xs)]) (h.news [.cells ⟨rows eB (mapX W H xs), 1, true⟩]) :=
 Fc.lift1o (os := [((mapX W H xs).length, rows eB (mapX W H xs), 1)]) (mk := fun ss => [.agg ⟨[Value.int .i64 W, .int .i64 H] ++ ss ++ []⟩]) (mkv := fun ss => .tuple ⟨ss ++ [.int .i64 (mE W H xs)]⟩) (rmap_c n c W H xs hn hb) (mkM W H) (MkV.tup (MkL.app rfl)) (rows_no (f := eN) _) (fun o h => by simp at h; subst h; exact rows_no (f := eB) _) hs hg
end Go.Proofs.YtgjokhodccacoaaDoor
