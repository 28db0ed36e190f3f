import Derived.Test.YtgjokhodccacoaaDoorSRecX6
set_option linter.unusedSimpArgs false
set_option linter.unusedVariables false
namespace Go.Proofs.YtgjokhodccacoaaDoor
open Go.RowKit Go.Vm
set_option maxRecDepth 100000
def ir8_r0 : IC := .reg [⟨some 1, none, false, .box (.t 0)⟩,
 ⟨some 2, none, false, .mv (.k (.bool false))⟩] (some [1])
def ir8_r1 : IC := .reg [⟨some 9, none, false, .fad 2 (.t 1)⟩,
 ⟨some 10, none, false, .ldc (.t 9)⟩,
 ⟨some 11, none, false, .len (.t 10)⟩,
 ⟨some 12, none, false, .cmp .gtr (.t 11) (.k (.int .i64 3700))⟩] (some [1, 12])
def ir8_r2 : IC := .reg [⟨some 13, none, false, .call (.f 19) []⟩,
 ⟨some 2, none, false, .mv (.t 13)⟩] (some [2])
def ir8_1 : IC := .seq ir8_r2 .ret
def ir8_2 : IC := .cond (.t 12) ir8_1 .skip
def ir8_3 : IC := .seq ir8_r1 ir8_2
def ir8_r3 : IC := .reg [⟨some 14, none, false, .lda 3 (.t 1)⟩,
 ⟨some 15, none, false, .call (.f 35) [(.t 14)]⟩,
 ⟨some 3, none, false, .alloc [(.int .i64 0), (.int .i64 0), (.slice none 0 0)]⟩,
 ⟨none, none, false, .st 3 (.t 3) (.t 15)⟩] (some [1, 3])
def ir8_r4 : IC := .reg [⟨some 16, none, false, .lda 3 (.t 3)⟩,
 ⟨some 17, none, false, .call (.f 36) [(.t 16)]⟩,
 ⟨some 4, none, false, .mv (.t 17)⟩] (some [1, 3, 4])
def ir8_r5 : IC := .reg [⟨some 19, none, false, .lda 3 (.t 3)⟩,
 ⟨some 20, none, false, .call (.f 37) [(.t 19)]⟩,
 ⟨some 18, none, false, .mv (.t 20)⟩,
 ⟨some 21, none, false, .ext (.t 18) 0⟩,
 ⟨some 22, none, false, .ext (.t 18) 1⟩,
 ⟨some 5, none, false, .mv (.t 21)⟩,
 ⟨some 6, none, false, .mv (.t 22)⟩] (some [1, 3, 4, 5, 6])
def ir8_r6 : IC := .reg [⟨some 24, none, false, .lda 3 (.t 1)⟩,
 ⟨some 25, none, false, .call (.f 38) [(.t 24)]⟩,
 ⟨some 23, none, false, .mv (.t 25)⟩,
 ⟨some 26, none, false, .ext (.t 23) 0⟩,
 ⟨some 27, none, false, .ext (.t 23) 1⟩,
 ⟨some 7, none, false, .mv (.t 26)⟩,
 ⟨some 8, none, false, .mv (.t 27)⟩] (some [1, 3, 4, 5, 6, 7, 8])
def ir8_r7 : IC := .reg [⟨some 28, none, false, .mv (.t 4)⟩,
 ⟨some 29, none, false, .cmp .eql (.t 28) (.k (.int .i64 0))⟩,
 ⟨some 30, none, false, .lda 3 (.t 1)⟩,
 ⟨some 31, none, false, .call (.f 39) [(.t 30)]⟩,
 ⟨some 32, none, false, .cmpb false (.t 29) (.t 31)⟩,
 ⟨some 33, none, false, .mv (.t 32)⟩,
 ⟨some 34, some (33, true), false, .mv (.t 4)⟩,
 ⟨some 35, some (33, true), false, .cmp .eql (.t 34) (.k (.int .i64 0))⟩,
 ⟨some 36, some (33, true), false, .mv (.t 35)⟩,
 ⟨some 37, some (36, false), false, .mv (.t 4)⟩,
 ⟨some 38, some (36, false), false, .cmp .eql (.t 37) (.k (.int .i64 2))⟩,
 ⟨some 39, some (33, true), false, .pick (.t 36) (.k (.bool true)) (.t 38)⟩,
 ⟨some 40, none, false, .pick (.t 33) (.t 39) (.k (.bool false))⟩,
 ⟨some 41, none, false, .mv (.t 40)⟩,
 ⟨some 42, some (41, true), false, .mv (.t 5)⟩,
 ⟨some 43, some (41, true), false, .gen (.convert 22 9 (.tmp 42))⟩,
 ⟨some 44, some (41, true), false, .mv (.t 7)⟩,
 ⟨some 45, some (41, true), false, .gen (.convert 22 9 (.tmp 44))⟩,
 ⟨some 46, some (41, true), false, .gen (.binOp .eql 9 (.tmp 43) (.tmp 45) 9)⟩,
 ⟨some 47, none, false, .pick (.t 41) (.t 46) (.k (.bool false))⟩,
 ⟨some 48, none, false, .mv (.t 47)⟩,
 ⟨some 49, some (48, true), false, .mv (.t 6)⟩,
 ⟨some 50, some (48, true), false, .mv (.t 8)⟩,
 ⟨some 51, some (48, true), false, .cmp .eql (.t 49) (.t 50)⟩,
 ⟨some 52, none, false, .pick (.t 48) (.t 51) (.k (.bool false))⟩,
 ⟨some 53, none, false, .mv (.t 52)⟩,
 ⟨some 54, some (53, true), false, .lda 3 (.t 3)⟩,
 ⟨some 55, some (53, true), false, .lda 3 (.t 1)⟩,
 ⟨some 56, some (53, true), false, .call (.f 40) [(.t 54), (.t 55)]⟩,
 ⟨some 57, none, false, .pick (.t 53) (.t 56) (.k (.bool false))⟩,
 ⟨some 58, none, false, .mv (.t 57)⟩,
 ⟨some 59, some (58, true), false, .call (.f 19) []⟩,
 ⟨some 60, none, false, .pick (.t 58) (.t 59) (.k (.bool false))⟩,
 ⟨some 2, none, false, .mv (.t 60)⟩] (some [2])
def ir8_4 : IC := .seq ir8_r7 .ret
def ir8_5 : IC := .seq ir8_r6 ir8_4
def ir8_6 : IC := .seq ir8_r5 ir8_5
def ir8_7 : IC := .seq ir8_r4 ir8_6
def ir8_8 : IC := .seq ir8_r3 ir8_7
def ir8_9 : IC := .seq ir8_3 ir8_8
def ir8_10 : IC := .seq ir8_r0 ir8_9
def ir8 : IC := ir8_10
theorem fn8 : FnIs Tryd.prog 8 ir8 61 [.tmp 2] := ⟨Tryd.f8, Tryd.f8.body.getD .skip, Tryd.func8, by kernel_rfl, by kernel_rfl, by kernel_rfl, by kernel_rfl⟩
theorem maps_c (n c : Nat) (W H : Int) (xs : List Int) (hn : xs.length = n) :
    Fc Tryd.prog 8 [mV 1 n c W H] (Hp 2 [none, srI xs]) (.bool true) (Hp 2 [none, srI xs]) := by
 refine Fc.intro0 fn8 (by simp) rfl rfl ?_; simp only [argF]
 refine ITri.seq ?_
 refine ITri.reg pok ?_; simp -implicitDefEqProofs (disch := first | decide | exact of_eq_true (eq_true rfl) | omega | assumption) only [ ↓vcD, vcE, ↓vcG, vcF, evs, evP, evB, intsOf, fillC, Value.cells, pt, Value.oneCell', reduceIte, reduceCtorEq, Nat.reduceEqDiff, Nat.reduceAdd, Nat.reduceMul, Nat.reduceLT, Nat.reduceBEq, Nat.reduceLeDiff, Nat.reduceSub]
 refine ITri.seq ?_
 refine ITri.seq ?_
 refine ITri.reg pok ?_; simp -implicitDefEqProofs (disch := first | decide | exact of_eq_true (eq_true rfl) | omega | assumption) only [ ↓vcD, vcE, ↓vcG, vcF, evs, evP, evB, intsOf, fillC, Value.cells, pt, Value.oneCell', reduceIte, reduceCtorEq, Nat.reduceEqDiff, Nat.reduceAdd, Nat.reduceMul, Nat.reduceLT, Nat.reduceBEq, Nat.reduceLeDiff, Nat.reduceSub]
 refine ITri.condD (by rfl) (fun h1 => ?_) (fun h1 => ?_)
 ·refine ITri.seq ?_
  refine ITri.reg pok ?_; simp -implicitDefEqProofs (disch := first | decide | exact of_eq_true (eq_true rfl) | omega | assumption) only [ ↓vcD, vcE, ↓vcG, vcF, evs, evP, evB, intsOf, fillC, Value.cells, pt, Value.oneCell', reduceIte, reduceCtorEq, Nat.reduceEqDiff, Nat.reduceAdd, Nat.reduceMul, Nat.reduceLT, Nat.reduceBEq, Nat.reduceLeDiff, Nat.reduceSub]
  refine ⟨_, _, knownT, ?_⟩
  try simp -implicitDefEqProofs (disch := first | decide | exact of_eq_true (eq_true rfl) | omega | assumption) only [ ↓vcD, vcE, ↓vcG, vcF, evs, evP, evB, intsOf, fillC, Value.cells, pt, Value.oneCell', reduceIte, reduceCtorEq, Nat.reduceEqDiff, Nat.reduceAdd, Nat.reduceMul, Nat.reduceLT, Nat.reduceBEq, Nat.reduceLeDiff, Nat.reduceSub]
  refine ITri.ret ?_; exact EndR.plain (by simp) (by rfl) (by rfl) (by rfl)
 have hb : n ≤ 1000000 := by omega
 refine ITri.skip ?_; simp only [SeqQ_normal, BlkQ_normal]
 refine ITri.seq ?_
 refine ITri.reg pok ?_; simp -implicitDefEqProofs (disch := first | decide | exact of_eq_true (eq_true rfl) | omega | assumption) only [ ↓vcD, vcE, ↓vcG, vcF, evs, evP, evB, intsOf, fillC, Value.cells, pt, Value.oneCell', reduceIte, reduceCtorEq, Nat.reduceEqDiff, Nat.reduceAdd, Nat.reduceMul, Nat.reduceLT, Nat.reduceBEq, Nat.reduceLeDiff, Nat.reduceSub]
 refine ⟨_, _, own_f hn hb (sees0 rfl (of_decide_eq_true rfl)) (get_hq rfl rfl), ?_⟩
 simp -implicitDefEqProofs (disch := first | decide | exact of_eq_true (eq_true rfl) | omega | assumption) only [news_c, news_n,  ↓vcD, vcE, ↓vcG, vcF, evs, evP, evB, intsOf, fillC, Value.cells, pt, Value.oneCell', reduceIte, reduceCtorEq, Nat.reduceEqDiff, Nat.reduceAdd, Nat.reduceMul, Nat.reduceLT, Nat.reduceBEq, Nat.reduceLeDiff, Nat.reduceSub]
 refine ITri.closeAt (k := 3) (kb := 4) (o := 2) (n := n) rfl rfl rfl (by decide) (by decide) (by decide) fun C ys hC hno hlen hnC => ?_
 have e1 : clAt 3 4 2 n C (rows eN xs) ys ⟨[.int .i64 W, .int .i64 H, sO 3 n], 1, false⟩ [none, srI xs, some (.cells ⟨[.int .i64 W, .int .i64 H, .slice (some ⟨1, 0, none⟩) n c], 1, false⟩), some (.cells ⟨rows eN xs, 1, true⟩), some (.cells ⟨[.int .i64 W, .int .i64 H, sO 3 n], 1, false⟩)] = [none, srI xs, some (.cells ⟨[.int .i64 W, .int .i64 H, .slice (some ⟨1, 0, none⟩) n c], 1, false⟩), some (.cells ⟨rows eN xs ++ ys, 1, false⟩), some (.cells ⟨[.int .i64 W, .int .i64 H, .slice (some ⟨3, 0, none⟩) n C], 1, false⟩)] := rfl
 rw [e1]
 refine ITri.forget (k := 3) (cs := rows eN xs) (ys := ys) rfl (by decide) ?_
 have e2 : ([none, srI xs, some (.cells ⟨[.int .i64 W, .int .i64 H, .slice (some ⟨1, 0, none⟩) n c], 1, false⟩), some (.cells ⟨rows eN xs ++ ys, 1, false⟩), some (.cells ⟨[.int .i64 W, .int .i64 H, .slice (some ⟨3, 0, none⟩) n C], 1, false⟩)] : List (Option AObj)).set 3 (some (.cells ⟨rows eN xs, 1, false⟩)) = [none, srI xs, some (.cells ⟨[.int .i64 W, .int .i64 H, .slice (some ⟨1, 0, none⟩) n c], 1, false⟩), some (.cells ⟨rows eN xs, 1, false⟩), some (.cells ⟨[.int .i64 W, .int .i64 H, .slice (some ⟨3, 0, none⟩) n C], 1, false⟩)] := rfl
 rw [e2]
 have hCo : C < openB := by unfold openB; omega
 refine ITri.seq ?_
 refine ITri.reg pok ?_; simp -implicitDefEqProofs (disch := first | decide | exact of_eq_true (eq_true rfl) | omega | assumption) only [ ↓vcD, vcE, ↓vcG, vcF, evs, evP, evB, intsOf, fillC, Value.cells, pt, Value.oneCell', reduceIte, reduceCtorEq, Nat.reduceEqDiff, Nat.reduceAdd, Nat.reduceMul, Nat.reduceLT, Nat.reduceBEq, Nat.reduceLeDiff, Nat.reduceSub]
 refine ⟨_, _, check_f hn hb (sees0 rfl (of_decide_eq_true rfl)) (get_hq rfl rfl), ?_⟩
 try simp -implicitDefEqProofs (disch := first | decide | exact of_eq_true (eq_true rfl) | omega | assumption) only [ ↓vcD, vcE, ↓vcG, vcF, evs, evP, evB, intsOf, fillC, Value.cells, pt, Value.oneCell', reduceIte, reduceCtorEq, Nat.reduceEqDiff, Nat.reduceAdd, Nat.reduceMul, Nat.reduceLT, Nat.reduceBEq, Nat.reduceLeDiff, Nat.reduceSub]
 refine ITri.seq ?_
 refine ITri.reg pok ?_; simp -implicitDefEqProofs (disch := first | decide | exact of_eq_true (eq_true rfl) | omega | assumption) only [ ↓vcD, vcE, ↓vcG, vcF, evs, evP, evB, intsOf, fillC, Value.cells, pt, Value.oneCell', reduceIte, reduceCtorEq, Nat.reduceEqDiff, Nat.reduceAdd, Nat.reduceMul, Nat.reduceLT, Nat.reduceBEq, Nat.reduceLeDiff, Nat.reduceSub]
 refine ⟨_, _, wmap_f hn hb hnC hCo (sees0 rfl (of_decide_eq_true rfl)) (get_hq rfl rfl), ?_⟩
 simp -implicitDefEqProofs (disch := first | decide | exact of_eq_true (eq_true rfl) | omega | assumption) only [news_c, news_n,  ↓vcD, vcE, ↓vcG, vcF, evs, evP, evB, intsOf, fillC, Value.cells, pt, Value.oneCell', reduceIte, reduceCtorEq, Nat.reduceEqDiff, Nat.reduceAdd, Nat.reduceMul, Nat.reduceLT, Nat.reduceBEq, Nat.reduceLeDiff, Nat.reduceSub]
 refine ITri.seq ?_
 refine ITri.reg pok ?_; simp -implicitDefEqProofs (disch := first | decide | exact of_eq_true (eq_true rfl) | omega | assumption) only [ ↓vcD, vcE, ↓vcG, vcF, evs, evP, evB, intsOf, fillC, Value.cells, pt, Value.oneCell', reduceIte, reduceCtorEq, Nat.reduceEqDiff, Nat.reduceAdd, Nat.reduceMul, Nat.reduceLT, Nat.reduceBEq, Nat.reduceLeDiff, Nat.reduceSub]
 refine ⟨_, _, rmap_f hn hb (sees0 rfl (of_decide_eq_true rfl)) (get_hq rfl rfl), ?_⟩
 simp -implicitDefEqProofs (disch := first | decide | exact of_eq_true (eq_true rfl) | omega | assumption) only [news_c, news_n,  ↓vcD, vcE, ↓vcG, vcF, evs, evP, evB, intsOf, fillC, Value.cells, pt, Value.oneCell', reduceIte, reduceCtorEq, Nat.reduceEqDiff, Nat.reduceAdd, Nat.reduceMul, Nat.reduceLT, Nat.reduceBEq, Nat.reduceLeDiff, Nat.reduceSub]
 have hsm : sameM W H W H xs xs = true := by unfold sameM; simp
 refine ITri.seq ?_
 cases hm : mOK W H xs with
 | true =>
  have e : mE W H xs = 0 := by unfold mE; rw [hm]; rfl
  rw [e]
  refine ITri.reg pok ?_; simp -implicitDefEqProofs (disch := first | decide | exact of_eq_true (eq_true rfl) | omega | assumption) only [ ↓vcD, vcE, ↓vcG, vcF, evs, evP, evB, intsOf, fillC, Value.cells, pt, Value.oneCell', reduceIte, reduceCtorEq, Nat.reduceEqDiff, Nat.reduceAdd, Nat.reduceMul, Nat.reduceLT, Nat.reduceBEq, Nat.reduceLeDiff, Nat.reduceSub]
  refine ⟨_, _, map_f hn hb (sees0 rfl (of_decide_eq_true rfl)) (get_hq rfl rfl), ?_⟩
  rw [hm]
  simp -implicitDefEqProofs (disch := first | decide | exact of_eq_true (eq_true rfl) | omega | assumption) only [decide_true, beq_self_eq_true,  ↓vcD, vcE, ↓vcG, vcF, evs, evP, evB, intsOf, fillC, Value.cells, pt, Value.oneCell', reduceIte, reduceCtorEq, Nat.reduceEqDiff, Nat.reduceAdd, Nat.reduceMul, Nat.reduceLT, Nat.reduceBEq, Nat.reduceLeDiff, Nat.reduceSub]
  refine gen_str rfl u_slB u_uint8 u_str rfl rfl (get_hq rfl rfl) ?_
  try simp -implicitDefEqProofs (disch := first | decide | exact of_eq_true (eq_true rfl) | omega | assumption) only [ ↓vcD, vcE, ↓vcG, vcF, evs, evP, evB, intsOf, fillC, Value.cells, pt, Value.oneCell', reduceIte, reduceCtorEq, Nat.reduceEqDiff, Nat.reduceAdd, Nat.reduceMul, Nat.reduceLT, Nat.reduceBEq, Nat.reduceLeDiff, Nat.reduceSub]
  refine gen_str rfl u_slB u_uint8 u_str rfl rfl (get_hq rfl rfl) ?_
  try simp -implicitDefEqProofs (disch := first | decide | exact of_eq_true (eq_true rfl) | omega | assumption) only [ ↓vcD, vcE, ↓vcG, vcF, evs, evP, evB, intsOf, fillC, Value.cells, pt, Value.oneCell', reduceIte, reduceCtorEq, Nat.reduceEqDiff, Nat.reduceAdd, Nat.reduceMul, Nat.reduceLT, Nat.reduceBEq, Nat.reduceLeDiff, Nat.reduceSub]
  refine gen_seq rfl rfl ?_
  simp -implicitDefEqProofs (disch := first | decide | exact of_eq_true (eq_true rfl) | omega | assumption) only [decide_true,  ↓vcD, vcE, ↓vcG, vcF, evs, evP, evB, intsOf, fillC, Value.cells, pt, Value.oneCell', reduceIte, reduceCtorEq, Nat.reduceEqDiff, Nat.reduceAdd, Nat.reduceMul, Nat.reduceLT, Nat.reduceBEq, Nat.reduceLeDiff, Nat.reduceSub]
  refine ⟨_, _, same_f hn hn hb hb (sees0 rfl (of_decide_eq_true rfl)) (get_hq rfl rfl) (get_hq rfl rfl), ?_⟩
  rw [hsm]
  try simp -implicitDefEqProofs (disch := first | decide | exact of_eq_true (eq_true rfl) | omega | assumption) only [ ↓vcD, vcE, ↓vcG, vcF, evs, evP, evB, intsOf, fillC, Value.cells, pt, Value.oneCell', reduceIte, reduceCtorEq, Nat.reduceEqDiff, Nat.reduceAdd, Nat.reduceMul, Nat.reduceLT, Nat.reduceBEq, Nat.reduceLeDiff, Nat.reduceSub]
  refine ⟨_, _, knownT, ?_⟩
  try simp -implicitDefEqProofs (disch := first | decide | exact of_eq_true (eq_true rfl) | omega | assumption) only [ ↓vcD, vcE, ↓vcG, vcF, evs, evP, evB, intsOf, fillC, Value.cells, pt, Value.oneCell', reduceIte, reduceCtorEq, Nat.reduceEqDiff, Nat.reduceAdd, Nat.reduceMul, Nat.reduceLT, Nat.reduceBEq, Nat.reduceLeDiff, Nat.reduceSub]
  refine ITri.ret ?_; exact EndR.plain (by simp) (by rfl) (by rfl) (by rfl)
 | false =>
  have e : mE W H xs = 2 := by unfold mE; rw [hm]; rfl
  rw [e]
  refine ITri.reg pok ?_; simp -implicitDefEqProofs (disch := first | decide | exact of_eq_true (eq_true rfl) | omega | assumption) only [show ((2 : Int) = 0) = False from eq_false (by decide), decide_false,  ↓vcD, vcE, ↓vcG, vcF, evs, evP, evB, intsOf, fillC, Value.cells, pt, Value.oneCell', reduceIte, reduceCtorEq, Nat.reduceEqDiff, Nat.reduceAdd, Nat.reduceMul, Nat.reduceLT, Nat.reduceBEq, Nat.reduceLeDiff, Nat.reduceSub]
  refine ⟨_, _, map_f hn hb (sees0 rfl (of_decide_eq_true rfl)) (get_hq rfl rfl), ?_⟩
  rw [hm]
  simp -implicitDefEqProofs (disch := first | decide | exact of_eq_true (eq_true rfl) | omega | assumption) only [decide_true, beq_self_eq_true, show ((2 : Int) = 0) = False from eq_false (by decide), decide_false,  ↓vcD, vcE, ↓vcG, vcF, evs, evP, evB, intsOf, fillC, Value.cells, pt, Value.oneCell', reduceIte, reduceCtorEq, Nat.reduceEqDiff, Nat.reduceAdd, Nat.reduceMul, Nat.reduceLT, Nat.reduceBEq, Nat.reduceLeDiff, Nat.reduceSub]
  refine gen_str rfl u_slB u_uint8 u_str rfl rfl (get_hq rfl rfl) ?_
  try simp -implicitDefEqProofs (disch := first | decide | exact of_eq_true (eq_true rfl) | omega | assumption) only [ ↓vcD, vcE, ↓vcG, vcF, evs, evP, evB, intsOf, fillC, Value.cells, pt, Value.oneCell', reduceIte, reduceCtorEq, Nat.reduceEqDiff, Nat.reduceAdd, Nat.reduceMul, Nat.reduceLT, Nat.reduceBEq, Nat.reduceLeDiff, Nat.reduceSub]
  refine gen_str rfl u_slB u_uint8 u_str rfl rfl (get_hq rfl rfl) ?_
  try simp -implicitDefEqProofs (disch := first | decide | exact of_eq_true (eq_true rfl) | omega | assumption) only [ ↓vcD, vcE, ↓vcG, vcF, evs, evP, evB, intsOf, fillC, Value.cells, pt, Value.oneCell', reduceIte, reduceCtorEq, Nat.reduceEqDiff, Nat.reduceAdd, Nat.reduceMul, Nat.reduceLT, Nat.reduceBEq, Nat.reduceLeDiff, Nat.reduceSub]
  refine gen_seq rfl rfl ?_
  simp -implicitDefEqProofs (disch := first | decide | exact of_eq_true (eq_true rfl) | omega | assumption) only [decide_true,  ↓vcD, vcE, ↓vcG, vcF, evs, evP, evB, intsOf, fillC, Value.cells, pt, Value.oneCell', reduceIte, reduceCtorEq, Nat.reduceEqDiff, Nat.reduceAdd, Nat.reduceMul, Nat.reduceLT, Nat.reduceBEq, Nat.reduceLeDiff, Nat.reduceSub]
  refine ⟨_, _, same_f hn hn hb hb (sees0 rfl (of_decide_eq_true rfl)) (get_hq rfl rfl) (get_hq rfl rfl), ?_⟩
  rw [hsm]
  try simp -implicitDefEqProofs (disch := first | decide | exact of_eq_true (eq_true rfl) | omega | assumption) only [ ↓vcD, vcE, ↓vcG, vcF, evs, evP, evB, intsOf, fillC, Value.cells, pt, Value.oneCell', reduceIte, reduceCtorEq, Nat.reduceEqDiff, Nat.reduceAdd, Nat.reduceMul, Nat.reduceLT, Nat.reduceBEq, Nat.reduceLeDiff, Nat.reduceSub]
  refine ⟨_, _, knownT, ?_⟩
  try simp -implicitDefEqProofs (disch := first | decide | exact of_eq_true (eq_true rfl) | omega | assumption) only [ ↓vcD, vcE, ↓vcG, vcF, evs, evP, evB, intsOf, fillC, Value.cells, pt, Value.oneCell', reduceIte, reduceCtorEq, Nat.reduceEqDiff, Nat.reduceAdd, Nat.reduceMul, Nat.reduceLT, Nat.reduceBEq, Nat.reduceLeDiff, Nat.reduceSub]
  refine ITri.ret ?_; exact EndR.plain (by simp) (by rfl) (by rfl) (by rfl)
end Go.Proofs.YtgjokhodccacoaaDoor
