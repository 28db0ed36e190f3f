/-
  Chapter 6: the law RecordScans, by names.
-/
import Derived.Test.YtgjokhodccacoaaDoorSRecS2
set_option linter.unusedSimpArgs false
set_option linter.unusedVariables false
namespace Go.Proofs.YtgjokhodccacoaaDoor
open Go.RowKit Go.Vm
set_option maxRecDepth 100000
theorem sc_all {xs : List Int} (hl : xs.length ≤ 30000) : ∀ k s, xs.length - s.at_ ≤ k → ScJ xs s → ScJ xs (scFin xs s) ∧ (scFin xs s).at_ ≤ xs.length := by
  intro k
  induction k with
  | zero =>
    intro s h J
    obtain ⟨j1, j2, _⟩ := id J
    rw [scFin, dif_neg (by omega)]
    exact ⟨J, j2⟩
  | succ k ih =>
    intro s h J
    obtain ⟨j1, j2, _⟩ := id J
    by_cases hx : s.at_ < xs.length
    · obtain ⟨J2, h2⟩ := sc_step hl J hx
      rw [scFin, dif_pos ⟨hx, h2⟩]
      exact ih _ (by omega) J2
    · rw [scFin, dif_neg (by omega)]
      exact ⟨J, j2⟩
theorem sc_len (xs : List Int) : (scF xs).length ≤ 30000 ∧ (scL xs).length ≤ 30001 := by
  unfold scF scL
  by_cases hl : 30000 < xs.length
  · rw [if_pos hl, if_pos hl]; decide
  · rw [if_neg hl, if_neg hl]
    obtain ⟨⟨j1, j2, j3, j4, j5, j6⟩, _⟩ := sc_all (by omega) _ _ (Nat.le_refl _) (sc_begin (xs := xs))
    refine ⟨by omega, ?_⟩
    unfold lz
    split
    · rw [List.length_append]
      simp only [List.length_cons, List.length_nil]
      omega
    · omega
section
variable {n c k sz : Nat} {op : Bool} {xs : List Int} {h : AH}
abbrev scV (b : Nat) (xs : List Int) : Value := .tuple #[sO b (scF xs).length, sO (b + 1) (scL xs).length, .int .i64 (scE xs)]
abbrev scO (xs : List Int) : List AObj := [.cells ⟨rows eF3 (scF xs), 3, true⟩, .cells ⟨rows eR2 (scL xs), 2, true⟩]
theorem sc_no (xs : List Int) : ∀ o ∈ [((scF xs).length, rows eF3 (scF xs), 3), ((scL xs).length, rows eR2 (scL xs), 2)], noAddrL o.2.1 = true := by
  intro o h
  simp only [List.mem_cons, List.not_mem_nil, or_false] at h
  rcases h with rfl | rfl
  · exact rows_no (f := eF3) _
  · exact rows_no (f := eR2) _
theorem ce3 (x : Int × Int × Int) : cellsEq [false, false, false] (eF3 x) (eF3 x) = some true := by simp [cellsEq, cellEq]
theorem ce2 (x : Int × Int) : cellsEq [false, false] (eR2 x) (eR2 x) = some true := by simp [cellsEq, cellEq]
theorem scan_f (hn : xs.length = n) (hB : isB xs) (hb : n ≤ 1000000) (hs : h.sees 0 = true) (hg : h.get k = some (.cells ⟨rows eB xs, sz, op⟩)) : Fc Tryd.prog 27 [sO k n] h (scV h.next xs) (h.news (scO xs)) :=
  Fc.lift1o (os := [((scF xs).length, rows eF3 (scF xs), 3), ((scL xs).length, rows eR2 (scL xs), 2)]) (mk := fun ss => ss ++ []) (mkv := fun ss => .tuple ⟨ss ++ [.int .i64 (scE xs)]⟩) (scan_c n xs hn hB hb) (MkL.app rfl) (MkV.tup (MkL.app rfl)) (rows_no (f := eB) _) (sc_no xs) hs hg
theorem rscan_f (hn : xs.length = n) (hB : isB xs) (hb : n ≤ 1000000) (hc : n ≤ c) (hco : c < openB) (hs : h.sees 0 = true) (hg : h.get k = some (.cells ⟨rows eB xs, sz, op⟩)) : Fc Tryd.prog 28 [.slice (some ⟨k, 0, none⟩) n c] h (scV h.next xs) (h.news (scO xs)) :=
  Fc.lift1o (os := [((scF xs).length, rows eF3 (scF xs), 3), ((scL xs).length, rows eR2 (scL xs), 2)]) (mk := fun ss => ss ++ []) (mkv := fun ss => .tuple ⟨ss ++ [.int .i64 (scE xs)]⟩) (rscan_c n c xs hn hB hb hc hco) (MkL.app rfl) (MkV.tup (MkL.app rfl)) (rows_no (f := eB) _) (sc_no xs) hs hg
end
/- boule/boulelaw06.RecordScans · slots 86 · names 0:b 1:b 3:found 4:lost 5:e 6:l 7:m 8:f 9:i 10:i · results [2] -/
def ir5_r0 : IC := .reg [⟨some 2, none, false, .mv (.k (.bool false))⟩] (some [0])
def ir5_r1 : IC := .reg [⟨some 11, none, false, .mv (.t 0)⟩,
  ⟨some 12, none, false, .len (.t 11)⟩,
  ⟨some 13, none, false, .cmp .gtr (.t 12) (.k (.int .i64 600))⟩,
  ⟨some 14, none, false, .mv (.t 13)⟩,
  ⟨some 15, some (14, true), false, .mv (.t 0)⟩,
  ⟨some 16, some (14, true), false, .len (.t 15)⟩,
  ⟨some 17, some (14, true), false, .cmp .leq (.t 16) (.k (.int .i64 30000))⟩,
  ⟨some 18, none, false, .pick (.t 14) (.t 17) (.k (.bool false))⟩,
  ⟨some 19, none, false, .mv (.t 18)⟩,
  ⟨some 20, some (19, false), false, .mv (.t 0)⟩,
  ⟨some 21, some (19, false), false, .len (.t 20)⟩,
  ⟨some 22, some (19, false), false, .cmp .gtr (.t 21) (.k (.int .i64 31000))⟩,
  ⟨some 23, none, false, .pick (.t 19) (.k (.bool true)) (.t 22)⟩] (some [0, 23])
def ir5_r2 : IC := .reg [⟨some 24, none, false, .call (.f 19) []⟩,
  ⟨some 2, none, false, .mv (.t 24)⟩] (some [2])
def ir5_1 : IC := .seq ir5_r2 .ret
def ir5_2 : IC := .cond (.t 23) ir5_1 .skip
def ir5_3 : IC := .seq ir5_r1 ir5_2
def ir5_r3 : IC := .reg [⟨some 26, none, false, .mv (.t 0)⟩,
  ⟨some 27, none, false, .call (.f 20) [(.t 26)]⟩,
  ⟨some 28, none, false, .call (.f 27) [(.t 27)]⟩,
  ⟨some 25, none, false, .mv (.t 28)⟩,
  ⟨some 29, none, false, .ext (.t 25) 0⟩,
  ⟨some 30, none, false, .ext (.t 25) 1⟩,
  ⟨some 31, none, false, .ext (.t 25) 2⟩,
  ⟨some 3, none, false, .mv (.t 29)⟩,
  ⟨some 4, none, false, .mv (.t 30)⟩,
  ⟨some 5, none, false, .mv (.t 31)⟩] (some [0, 3, 4, 5])
def ir5_r4 : IC := .reg [⟨some 33, none, false, .mv (.t 0)⟩,
  ⟨some 34, none, false, .call (.f 28) [(.t 33)]⟩,
  ⟨some 32, none, false, .mv (.t 34)⟩,
  ⟨some 35, none, false, .ext (.t 32) 0⟩,
  ⟨some 36, none, false, .ext (.t 32) 1⟩,
  ⟨some 37, none, false, .ext (.t 32) 2⟩,
  ⟨some 6, none, false, .mv (.t 35)⟩,
  ⟨some 7, none, false, .mv (.t 36)⟩,
  ⟨some 8, none, false, .mv (.t 37)⟩] (some [3, 4, 5, 6, 7, 8])
def ir5_r5 : IC := .reg [⟨some 38, none, false, .mv (.t 5)⟩,
  ⟨some 39, none, false, .mv (.t 8)⟩,
  ⟨some 40, none, false, .cmp .neq (.t 38) (.t 39)⟩,
  ⟨some 41, none, false, .mv (.t 40)⟩,
  ⟨some 42, some (41, false), false, .mv (.t 3)⟩,
  ⟨some 43, some (41, false), false, .len (.t 42)⟩,
  ⟨some 44, some (41, false), false, .mv (.t 6)⟩,
  ⟨some 45, some (41, false), false, .len (.t 44)⟩,
  ⟨some 46, some (41, false), false, .cmp .neq (.t 43) (.t 45)⟩,
  ⟨some 47, none, false, .pick (.t 41) (.k (.bool true)) (.t 46)⟩,
  ⟨some 48, none, false, .mv (.t 47)⟩,
  ⟨some 49, some (48, false), false, .mv (.t 4)⟩,
  ⟨some 50, some (48, false), false, .len (.t 49)⟩,
  ⟨some 51, some (48, false), false, .mv (.t 7)⟩,
  ⟨some 52, some (48, false), false, .len (.t 51)⟩,
  ⟨some 53, some (48, false), false, .cmp .neq (.t 50) (.t 52)⟩,
  ⟨some 54, none, false, .pick (.t 48) (.k (.bool true)) (.t 53)⟩] (some [3, 4, 6, 7, 54])
def ir5_r6 : IC := .reg [⟨some 2, none, false, .mv (.k (.bool false))⟩] (some [2])
def ir5_4 : IC := .seq ir5_r6 .ret
def ir5_5 : IC := .cond (.t 54) ir5_4 .skip
def ir5_6 : IC := .seq ir5_r5 ir5_5
def ir5_r7 : IC := .reg [⟨some 9, none, false, .mv (.k (.int .i64 0))⟩] (some [3, 4, 6, 7, 9])
def ir5_r8 : IC := .reg [⟨some 55, none, false, .mv (.t 9)⟩,
  ⟨some 56, none, false, .mv (.t 6)⟩,
  ⟨some 57, none, false, .len (.t 56)⟩,
  ⟨some 58, none, false, .cmp .lss (.t 55) (.t 57)⟩] (some [3, 4, 6, 7, 9, 58])
def ir5_7 : IC := .cond (.t 58) .skip (.exit 0)
def ir5_8 : IC := .seq ir5_r8 ir5_7
def ir5_r10 : IC := .draw [(⟨some 61, none, false, .mv (.t 3)⟩, false, 0, 0),
  (⟨some 62, none, false, .mv (.t 9)⟩, false, 0, 0),
  (⟨some 63, none, false, .iad 3 (.t 61) (.t 62)⟩, false, 3, 0),
  (⟨some 64, none, false, .lda 3 (.t 63)⟩, false, 7, 1),
  (⟨some 65, none, false, .mv (.t 6)⟩, false, 0, 0),
  (⟨some 66, none, false, .mv (.t 9)⟩, false, 0, 0),
  (⟨some 67, none, false, .iad 3 (.t 65) (.t 66)⟩, false, 48, 0),
  (⟨some 68, none, false, .lda 3 (.t 67)⟩, false, 112, 8),
  (⟨some 69, none, false, .eqs true [false, false, false] (.t 64) (.t 68)⟩, false, 255, 0)] (some [3, 4, 6, 7, 9, 69])
def ir5_r11 : IC := .reg [⟨some 2, none, false, .mv (.k (.bool false))⟩] (some [2])
def ir5_9 : IC := .seq ir5_r11 .ret
def ir5_10 : IC := .cond (.t 69) ir5_9 .skip
def ir5_11 : IC := .seq ir5_r10 ir5_10
def ir5_12 : IC := .block 1 ir5_11
def ir5_r9 : IC := .reg [⟨some 59, none, false, .mv (.t 9)⟩,
  ⟨some 60, none, false, .ar .add (.t 59) (.k (.int .i64 1))⟩,
  ⟨some 9, none, false, .mv (.t 60)⟩] (some [3, 4, 6, 7, 9])
def ir5_13 : IC := .seq ir5_12 ir5_r9
def ir5_14 : IC := .seq ir5_8 ir5_13
def ir5_15 : IC := .loop ir5_14
def ir5_16 : IC := .block 0 ir5_15
def ir5_17 : IC := .seq ir5_r7 ir5_16
def ir5_r12 : IC := .reg [⟨some 10, none, false, .mv (.k (.int .i64 0))⟩] (some [4, 7, 10])
def ir5_r13 : IC := .reg [⟨some 70, none, false, .mv (.t 10)⟩,
  ⟨some 71, none, false, .mv (.t 7)⟩,
  ⟨some 72, none, false, .len (.t 71)⟩,
  ⟨some 73, none, false, .cmp .lss (.t 70) (.t 72)⟩] (some [4, 7, 10, 73])
def ir5_18 : IC := .cond (.t 73) .skip (.exit 2)
def ir5_19 : IC := .seq ir5_r13 ir5_18
def ir5_r15 : IC := .draw [(⟨some 76, none, false, .mv (.t 4)⟩, false, 0, 0),
  (⟨some 77, none, false, .mv (.t 10)⟩, false, 0, 0),
  (⟨some 78, none, false, .iad 2 (.t 76) (.t 77)⟩, false, 3, 0),
  (⟨some 79, none, false, .lda 2 (.t 78)⟩, false, 7, 1),
  (⟨some 80, none, false, .mv (.t 7)⟩, false, 0, 0),
  (⟨some 81, none, false, .mv (.t 10)⟩, false, 0, 0),
  (⟨some 82, none, false, .iad 2 (.t 80) (.t 81)⟩, false, 48, 0),
  (⟨some 83, none, false, .lda 2 (.t 82)⟩, false, 112, 8),
  (⟨some 84, none, false, .eqs true [false, false] (.t 79) (.t 83)⟩, false, 255, 0)] (some [4, 7, 10, 84])
def ir5_r16 : IC := .reg [⟨some 2, none, false, .mv (.k (.bool false))⟩] (some [2])
def ir5_20 : IC := .seq ir5_r16 .ret
def ir5_21 : IC := .cond (.t 84) ir5_20 .skip
def ir5_22 : IC := .seq ir5_r15 ir5_21
def ir5_23 : IC := .block 3 ir5_22
def ir5_r14 : IC := .reg [⟨some 74, none, false, .mv (.t 10)⟩,
  ⟨some 75, none, false, .ar .add (.t 74) (.k (.int .i64 1))⟩,
  ⟨some 10, none, false, .mv (.t 75)⟩] (some [4, 7, 10])
def ir5_24 : IC := .seq ir5_23 ir5_r14
def ir5_25 : IC := .seq ir5_19 ir5_24
def ir5_26 : IC := .loop ir5_25
def ir5_27 : IC := .block 2 ir5_26
def ir5_28 : IC := .seq ir5_r12 ir5_27
def ir5_r17 : IC := .reg [⟨some 85, none, false, .call (.f 19) []⟩,
  ⟨some 2, none, false, .mv (.t 85)⟩] (some [2])
def ir5_29 : IC := .seq ir5_r17 .ret
def ir5_30 : IC := .seq ir5_28 ir5_29
def ir5_31 : IC := .seq ir5_17 ir5_30
def ir5_32 : IC := .seq ir5_6 ir5_31
def ir5_33 : IC := .seq ir5_r4 ir5_32
def ir5_34 : IC := .seq ir5_r3 ir5_33
def ir5_35 : IC := .seq ir5_3 ir5_34
def ir5_36 : IC := .seq ir5_r0 ir5_35
def ir5 : IC := ir5_36
theorem fn5 : FnIs Tryd.prog 5 ir5 86 [.tmp 2] := ⟨Tryd.f5, Tryd.f5.body.getD .skip, Tryd.func5, by kernel_rfl, by kernel_rfl, by kernel_rfl, by kernel_rfl⟩
theorem scans_c (n c : Nat) (xs : List Int) (hn : xs.length = n) (hB : isB xs) (hc : n ≤ c) (hco : c < openB) :
    Fc Tryd.prog 5 [.slice (some ⟨1, 0, none⟩) n c] (Hp 2 [none, srB xs]) (.bool true) (Hp 2 [none, srB xs]) := by
  refine Fc.intro0 fn5 (by simp) rfl rfl ?_; simp only [argF]
  refine ITri.seq ?_
  refine ITri.reg pok ?_; simp -implicitDefEqProofs (disch := first | decide | exact of_eq_true (eq_true rfl) | omega | assumption) only [ ↓vcD, vcE, ↓vcG, vcF, evs, evP, evB, intsOf, fillC, Value.cells, pt, Value.oneCell', reduceIte, reduceCtorEq, Nat.reduceEqDiff, Nat.reduceAdd, Nat.reduceMul, Nat.reduceLT, Nat.reduceBEq, Nat.reduceLeDiff, Nat.reduceSub] -- r0 law.go:155
  refine ITri.seq ?_
  refine ITri.seq ?_
  by_cases g : (600 < (n : Int) ∧ (n : Int) ≤ 30000) ∨ 31000 < (n : Int)
  · refine ITri.one [(0, .slice (some ⟨1, 0, none⟩) n c), (23, .bool true)] ?_ ?_
    · by_cases g1 : 600 < (n : Int)
      · by_cases g2 : (n : Int) ≤ 30000
        · refine ITri.reg pok ?_; simp -implicitDefEqProofs (disch := first | decide | exact of_eq_true (eq_true rfl) | omega | assumption) only [g1, g2, decide_true,  ↓vcD, vcE, ↓vcG, vcF, evs, evP, evB, intsOf, fillC, Value.cells, pt, Value.oneCell', reduceIte, reduceCtorEq, Nat.reduceEqDiff, Nat.reduceAdd, Nat.reduceMul, Nat.reduceLT, Nat.reduceBEq, Nat.reduceLeDiff, Nat.reduceSub]
        · have g3 : 31000 < (n : Int) := by omega
          refine ITri.reg pok ?_; simp -implicitDefEqProofs (disch := first | decide | exact of_eq_true (eq_true rfl) | omega | assumption) only [g1, g2, g3, decide_true, decide_false,  ↓vcD, vcE, ↓vcG, vcF, evs, evP, evB, intsOf, fillC, Value.cells, pt, Value.oneCell', reduceIte, reduceCtorEq, Nat.reduceEqDiff, Nat.reduceAdd, Nat.reduceMul, Nat.reduceLT, Nat.reduceBEq, Nat.reduceLeDiff, Nat.reduceSub]
      · exact absurd g (by omega)
    refine ITri.cond (v := true) rfl (fun _ => ?_) (fun h => by cases h)
    refine ITri.seq ?_
    refine ITri.reg pok ?_; simp -implicitDefEqProofs (disch := first | decide | exact of_eq_true (eq_true rfl) | omega | assumption) only [ ↓vcD, vcE, ↓vcG, vcF, evs, evP, evB, intsOf, fillC, Value.cells, pt, Value.oneCell', reduceIte, reduceCtorEq, Nat.reduceEqDiff, Nat.reduceAdd, Nat.reduceMul, Nat.reduceLT, Nat.reduceBEq, Nat.reduceLeDiff, Nat.reduceSub] -- r2 law.go:157 CALLS .call F19 []
    refine ⟨_, _, knownT, ?_⟩
    try simp -implicitDefEqProofs (disch := first | decide | exact of_eq_true (eq_true rfl) | omega | assumption) only [ ↓vcD, vcE, ↓vcG, vcF, evs, evP, evB, intsOf, fillC, Value.cells, pt, Value.oneCell', reduceIte, reduceCtorEq, Nat.reduceEqDiff, Nat.reduceAdd, Nat.reduceMul, Nat.reduceLT, Nat.reduceBEq, Nat.reduceLeDiff, Nat.reduceSub]
    refine ITri.ret ?_; exact EndR.plain (by simp) (by rfl) (by rfl) (by rfl)
  refine ITri.one [(0, .slice (some ⟨1, 0, none⟩) n c), (23, .bool false)] ?_ ?_
  · have g3 : ¬ 31000 < (n : Int) := by omega
    by_cases g1 : 600 < (n : Int)
    · have g2 : ¬ (n : Int) ≤ 30000 := by omega
      refine ITri.reg pok ?_; simp -implicitDefEqProofs (disch := first | decide | exact of_eq_true (eq_true rfl) | omega | assumption) only [g1, g2, g3, decide_true, decide_false,  ↓vcD, vcE, ↓vcG, vcF, evs, evP, evB, intsOf, fillC, Value.cells, pt, Value.oneCell', reduceIte, reduceCtorEq, Nat.reduceEqDiff, Nat.reduceAdd, Nat.reduceMul, Nat.reduceLT, Nat.reduceBEq, Nat.reduceLeDiff, Nat.reduceSub]
    · refine ITri.reg pok ?_; simp -implicitDefEqProofs (disch := first | decide | exact of_eq_true (eq_true rfl) | omega | assumption) only [g1, g3, decide_false,  ↓vcD, vcE, ↓vcG, vcF, evs, evP, evB, intsOf, fillC, Value.cells, pt, Value.oneCell', reduceIte, reduceCtorEq, Nat.reduceEqDiff, Nat.reduceAdd, Nat.reduceMul, Nat.reduceLT, Nat.reduceBEq, Nat.reduceLeDiff, Nat.reduceSub]
  refine ITri.cond (v := false) rfl (fun h => by cases h) (fun _ => ?_); refine ITri.skip ?_; simp only [SeqQ_normal, BlkQ_normal]
  have hb : n ≤ 1000000 := by omega
  refine ITri.seq ?_
  refine ITri.reg pok ?_; simp -implicitDefEqProofs (disch := first | decide | exact of_eq_true (eq_true rfl) | omega | assumption) only [ ↓vcD, vcE, ↓vcG, vcF, evs, evP, evB, intsOf, fillC, Value.cells, pt, Value.oneCell', reduceIte, reduceCtorEq, Nat.reduceEqDiff, Nat.reduceAdd, Nat.reduceMul, Nat.reduceLT, Nat.reduceBEq, Nat.reduceLeDiff, Nat.reduceSub] -- r3 law.go:159 CALLS .call F20 [%26] .call F27 [%27]
  refine ⟨_, _, ownB_f hn hb (sees0 rfl (of_decide_eq_true rfl)) (get_hq rfl rfl), ?_⟩
  simp -implicitDefEqProofs (disch := first | decide | exact of_eq_true (eq_true rfl) | omega | assumption) only [news_c, news_n,  ↓vcD, vcE, ↓vcG, vcF, evs, evP, evB, intsOf, fillC, Value.cells, pt, Value.oneCell', reduceIte, reduceCtorEq, Nat.reduceEqDiff, Nat.reduceAdd, Nat.reduceMul, Nat.reduceLT, Nat.reduceBEq, Nat.reduceLeDiff, Nat.reduceSub]
  refine ⟨_, _, scan_f hn hB hb (sees0 rfl (of_decide_eq_true rfl)) (get_hq rfl rfl), ?_⟩
  simp -implicitDefEqProofs (disch := first | decide | exact of_eq_true (eq_true rfl) | omega | assumption) only [news_c, news_n,  ↓vcD, vcE, ↓vcG, vcF, evs, evP, evB, intsOf, fillC, Value.cells, pt, Value.oneCell', reduceIte, reduceCtorEq, Nat.reduceEqDiff, Nat.reduceAdd, Nat.reduceMul, Nat.reduceLT, Nat.reduceBEq, Nat.reduceLeDiff, Nat.reduceSub]
  refine ITri.seq ?_
  refine ITri.reg pok ?_; simp -implicitDefEqProofs (disch := first | decide | exact of_eq_true (eq_true rfl) | omega | assumption) only [ ↓vcD, vcE, ↓vcG, vcF, evs, evP, evB, intsOf, fillC, Value.cells, pt, Value.oneCell', reduceIte, reduceCtorEq, Nat.reduceEqDiff, Nat.reduceAdd, Nat.reduceMul, Nat.reduceLT, Nat.reduceBEq, Nat.reduceLeDiff, Nat.reduceSub] -- r4 law.go:160 CALLS .call F28 [%33]
  refine ⟨_, _, rscan_f hn hB hb hc hco (sees0 rfl (of_decide_eq_true rfl)) (get_hq rfl rfl), ?_⟩
  simp -implicitDefEqProofs (disch := first | decide | exact of_eq_true (eq_true rfl) | omega | assumption) only [news_c, news_n,  ↓vcD, vcE, ↓vcG, vcF, evs, evP, evB, intsOf, fillC, Value.cells, pt, Value.oneCell', reduceIte, reduceCtorEq, Nat.reduceEqDiff, Nat.reduceAdd, Nat.reduceMul, Nat.reduceLT, Nat.reduceBEq, Nat.reduceLeDiff, Nat.reduceSub]
  obtain ⟨hf1, hf2⟩ := sc_len xs
  generalize scF xs = fs at *
  generalize scL xs = ls at *
  generalize scE xs = er at *
  refine ITri.seq ?_
  refine ITri.seq ?_
  refine ITri.reg pok ?_; simp -implicitDefEqProofs (disch := first | decide | exact of_eq_true (eq_true rfl) | omega | assumption) only [decide_true, Bool.not_true,  ↓vcD, vcE, ↓vcG, vcF, evs, evP, evB, intsOf, fillC, Value.cells, pt, Value.oneCell', reduceIte, reduceCtorEq, Nat.reduceEqDiff, Nat.reduceAdd, Nat.reduceMul, Nat.reduceLT, Nat.reduceBEq, Nat.reduceLeDiff, Nat.reduceSub] -- r5 law.go:161
  refine ITri.cond (v := false) rfl (fun h => by cases h) (fun _ => ?_); refine ITri.skip ?_; simp only [SeqQ_normal, BlkQ_normal]
  refine ITri.seq ?_
  refine ITri.seq ?_
  refine ITri.reg pok ?_; simp -implicitDefEqProofs (disch := first | decide | exact of_eq_true (eq_true rfl) | omega | assumption) only [ ↓vcD, vcE, ↓vcG, vcF, evs, evP, evB, intsOf, fillC, Value.cells, pt, Value.oneCell', reduceIte, reduceCtorEq, Nat.reduceEqDiff, Nat.reduceAdd, Nat.reduceMul, Nat.reduceLT, Nat.reduceBEq, Nat.reduceLeDiff, Nat.reduceSub] -- r7 law.go:164
  have z0 : (0 : Int) = ((0 : Nat) : Int) := rfl
  refine ITri.block ?_ -- 0
  refine ITri.loop (fun i : Nat => [(3, sO 3 fs.length), (4, sO 4 ls.length), (6, sO 5 fs.length), (7, sO 6 ls.length), (9, .int .i64 i)]) (fun _ => []) (fun _ => Hp 2 [none, srB xs, some (.cells ⟨rows eB xs, 1, true⟩), rF3 fs, rR2 ls, rF3 fs, rR2 ls]) (fun i => i ≤ fs.length) (fun i => fs.length - i) 0 (by omega) (Wk.sub ⟨rfl, rfl, rfl, rfl, rfl, trivial⟩) fun i hi => ?_
  refine ITri.seq ?_
  refine ITri.seq ?_
  refine ITri.reg pok ?_; simp -implicitDefEqProofs (disch := first | decide | exact of_eq_true (eq_true rfl) | omega | assumption) only [ ↓vcD, vcE, ↓vcG, vcF, evs, evP, evB, intsOf, fillC, Value.cells, pt, Value.oneCell', reduceIte, reduceCtorEq, Nat.reduceEqDiff, Nat.reduceAdd, Nat.reduceMul, Nat.reduceLT, Nat.reduceBEq, Nat.reduceLeDiff, Nat.reduceSub] -- r8
  refine ITri.condD (by rfl) (fun h3 => ?_) (fun h3 => ?_) -- %58
  · have hix : i < fs.length := by omega
    have hg := rows_takeC (f := eF3) hix
    have hi1 : (i : Int) + 1 = ((i + 1 : Nat) : Int) := by omega
    refine ITri.skip ?_; simp only [SeqQ_normal, BlkQ_normal]
    refine ITri.seq ?_
    refine ITri.block ?_ -- 1
    refine ITri.seq ?_
    refine ITri.draw pok ?_; simp -implicitDefEqProofs (disch := first | decide | exact of_eq_true (eq_true rfl) | omega | assumption) only [hg, ce3, Bool.not_true,  ↓vcD, vcE, ↓vcG, vcF, evs, evP, evB, intsOf, fillC, Value.cells, pt, Value.oneCell', reduceIte, reduceCtorEq, Nat.reduceEqDiff, Nat.reduceAdd, Nat.reduceMul, Nat.reduceLT, Nat.reduceBEq, Nat.reduceLeDiff, Nat.reduceSub] -- r10
    refine ITri.cond (v := false) rfl (fun h => by cases h) (fun _ => ?_); refine ITri.skip ?_; simp only [SeqQ_normal, BlkQ_normal]
    refine ITri.reg pok ?_; simp -implicitDefEqProofs (disch := first | decide | exact of_eq_true (eq_true rfl) | omega | assumption) only [hi1,  ↓vcD, vcE, ↓vcG, vcF, evs, evP, evB, intsOf, fillC, Value.cells, pt, Value.oneCell', reduceIte, reduceCtorEq, Nat.reduceEqDiff, Nat.reduceAdd, Nat.reduceMul, Nat.reduceLT, Nat.reduceBEq, Nat.reduceLeDiff, Nat.reduceSub]
    exact LoopQ.next (i + 1) (by omega) (by omega) (Wk.sub ⟨rfl, rfl, rfl, rfl, rfl, trivial⟩)
  refine ITri.exit ?_; try simp -implicitDefEqProofs (disch := first | decide | exact of_eq_true (eq_true rfl) | omega | assumption) only [ ↓vcD, vcE, ↓vcG, vcF, evs, evP, evB, intsOf, fillC, Value.cells, pt, Value.oneCell', reduceIte, reduceCtorEq, Nat.reduceEqDiff, Nat.reduceAdd, Nat.reduceMul, Nat.reduceLT, Nat.reduceBEq, Nat.reduceLeDiff, Nat.reduceSub]
  refine ITri.seq ?_
  refine ITri.seq ?_
  refine ITri.reg pok ?_; simp -implicitDefEqProofs (disch := first | decide | exact of_eq_true (eq_true rfl) | omega | assumption) only [ ↓vcD, vcE, ↓vcG, vcF, evs, evP, evB, intsOf, fillC, Value.cells, pt, Value.oneCell', reduceIte, reduceCtorEq, Nat.reduceEqDiff, Nat.reduceAdd, Nat.reduceMul, Nat.reduceLT, Nat.reduceBEq, Nat.reduceLeDiff, Nat.reduceSub] -- r12
  refine ITri.block ?_ -- 2
  refine ITri.loop (fun i : Nat => [(4, sO 4 ls.length), (7, sO 6 ls.length), (10, .int .i64 i)]) (fun _ => []) (fun _ => Hp 2 [none, srB xs, some (.cells ⟨rows eB xs, 1, true⟩), rF3 fs, rR2 ls, rF3 fs, rR2 ls]) (fun i => i ≤ ls.length) (fun i => ls.length - i) 0 (by omega) (Wk.sub ⟨rfl, rfl, rfl, trivial⟩) fun i hi => ?_
  refine ITri.seq ?_
  refine ITri.seq ?_
  refine ITri.reg pok ?_; simp -implicitDefEqProofs (disch := first | decide | exact of_eq_true (eq_true rfl) | omega | assumption) only [ ↓vcD, vcE, ↓vcG, vcF, evs, evP, evB, intsOf, fillC, Value.cells, pt, Value.oneCell', reduceIte, reduceCtorEq, Nat.reduceEqDiff, Nat.reduceAdd, Nat.reduceMul, Nat.reduceLT, Nat.reduceBEq, Nat.reduceLeDiff, Nat.reduceSub] -- r13
  refine ITri.condD (by rfl) (fun h3 => ?_) (fun h3 => ?_) -- %73
  · have hix : i < ls.length := by omega
    have hg := rows_takeC (f := eR2) hix
    have hi1 : (i : Int) + 1 = ((i + 1 : Nat) : Int) := by omega
    refine ITri.skip ?_; simp only [SeqQ_normal, BlkQ_normal]
    refine ITri.seq ?_
    refine ITri.block ?_ -- 3
    refine ITri.seq ?_
    refine ITri.draw pok ?_; simp -implicitDefEqProofs (disch := first | decide | exact of_eq_true (eq_true rfl) | omega | assumption) only [hg, ce2, Bool.not_true,  ↓vcD, vcE, ↓vcG, vcF, evs, evP, evB, intsOf, fillC, Value.cells, pt, Value.oneCell', reduceIte, reduceCtorEq, Nat.reduceEqDiff, Nat.reduceAdd, Nat.reduceMul, Nat.reduceLT, Nat.reduceBEq, Nat.reduceLeDiff, Nat.reduceSub] -- r15
    refine ITri.cond (v := false) rfl (fun h => by cases h) (fun _ => ?_); refine ITri.skip ?_; simp only [SeqQ_normal, BlkQ_normal]
    refine ITri.reg pok ?_; simp -implicitDefEqProofs (disch := first | decide | exact of_eq_true (eq_true rfl) | omega | assumption) only [hi1,  ↓vcD, vcE, ↓vcG, vcF, evs, evP, evB, intsOf, fillC, Value.cells, pt, Value.oneCell', reduceIte, reduceCtorEq, Nat.reduceEqDiff, Nat.reduceAdd, Nat.reduceMul, Nat.reduceLT, Nat.reduceBEq, Nat.reduceLeDiff, Nat.reduceSub]
    exact LoopQ.next (i + 1) (by omega) (by omega) (Wk.sub ⟨rfl, rfl, rfl, trivial⟩)
  refine ITri.exit ?_; try simp -implicitDefEqProofs (disch := first | decide | exact of_eq_true (eq_true rfl) | omega | assumption) only [ ↓vcD, vcE, ↓vcG, vcF, evs, evP, evB, intsOf, fillC, Value.cells, pt, Value.oneCell', reduceIte, reduceCtorEq, Nat.reduceEqDiff, Nat.reduceAdd, Nat.reduceMul, Nat.reduceLT, Nat.reduceBEq, Nat.reduceLeDiff, Nat.reduceSub]
  refine ITri.seq ?_
  refine ITri.reg pok ?_; simp -implicitDefEqProofs (disch := first | decide | exact of_eq_true (eq_true rfl) | omega | assumption) only [ ↓vcD, vcE, ↓vcG, vcF, evs, evP, evB, intsOf, fillC, Value.cells, pt, Value.oneCell', reduceIte, reduceCtorEq, Nat.reduceEqDiff, Nat.reduceAdd, Nat.reduceMul, Nat.reduceLT, Nat.reduceBEq, Nat.reduceLeDiff, Nat.reduceSub] -- r17 law.go:174 CALLS .call F19 []
  refine ⟨_, _, knownT, ?_⟩
  try simp -implicitDefEqProofs (disch := first | decide | exact of_eq_true (eq_true rfl) | omega | assumption) only [ ↓vcD, vcE, ↓vcG, vcF, evs, evP, evB, intsOf, fillC, Value.cells, pt, Value.oneCell', reduceIte, reduceCtorEq, Nat.reduceEqDiff, Nat.reduceAdd, Nat.reduceMul, Nat.reduceLT, Nat.reduceBEq, Nat.reduceLeDiff, Nat.reduceSub]
  refine ITri.ret ?_; exact EndR.plain (by simp) (by rfl) (by rfl) (by rfl)
end Go.Proofs.YtgjokhodccacoaaDoor
