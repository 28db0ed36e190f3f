/-
  Chapter 1 at the top: units.Portions, by names.
-/
import Derived.Test.YtlhhkmkclmedgaaPorF
set_option linter.unusedSimpArgs false
set_option linter.unusedVariables false
namespace Go.Proofs.Ytlhhkmkclmedgaa
open Go.RowKit Go.Vm
set_option maxRecDepth 100000

/-- The parts from the last one on. -/
def otF (n : Int) (ws : List Int) (m j : Nat) : List Int := List.replicate (m - j) 0 ++ (shF n ws m).drop (m - j)
theorem otF_len {n : Int} {ws : List Int} {m j : Nat} (h : j ≤ m) : (otF n ws m j).length = m := by
  unfold otF
  rw [List.length_append, List.length_replicate, List.length_drop, shF_len]
  omega
theorem otF_0 (n : Int) (ws : List Int) (m : Nat) : otF n ws m 0 = List.replicate m 0 := by
  unfold otF
  rw [Nat.sub_zero, List.drop_eq_nil_of_le (by rw [shF_len]; exact Nat.le_refl _), List.append_nil]
theorem otF_m (n : Int) (ws : List Int) (m : Nat) : otF n ws m m = shF n ws m := by
  unfold otF
  rw [Nat.sub_self]
  rfl
theorem otF_step {n : Int} {ws : List Int} {m j : Nat} (h : j < m) : writeAt (rows eI (otF n ws m j)) (m - 1 - j) [.int .i64 (qF n ws (m - j) - qF n ws (m - 1 - j))] = rows eI (otF n ws m (j + 1)) := by
  have e1 : m - j = (m - 1 - j) + 1 := by omega
  have e2 : m - (j + 1) = m - 1 - j := by omega
  have hl := shF_len (n := n) (l := ws) m
  have e3 : (shF n ws m).drop (m - 1 - j) = (qF n ws (m - j) - qF n ws (m - 1 - j)) :: (shF n ws m).drop (m - j) := by
    rw [e1, List.drop_eq_getElem_cons (by omega)]
    congr 1
    have := shF_nth (n := n) (l := ws) (j := m - 1 - j) (i := m) (by omega)
    rw [← this]
    exact (List.getElem?_eq_some_iff.1 (get_nth (by omega))).2
  unfold writeAt
  have t1 : (rows eI (otF n ws m j)).take (m - 1 - j) = rows eI (List.replicate (m - 1 - j) 0) := by
    have := rows_take (f := eI) (c := 1) (otF n ws m j) (m - 1 - j)
    rw [Nat.mul_one] at this
    rw [this]
    congr 1
    unfold otF
    rw [List.take_append_of_le_length (by rw [List.length_replicate]; omega), List.take_replicate]
    congr 1
    omega
  have t2 : (rows eI (otF n ws m j)).drop (m - 1 - j + [Value.int .i64 (qF n ws (m - j) - qF n ws (m - 1 - j))].length) = rows eI ((shF n ws m).drop (m - j)) := by
    unfold otF
    rw [rows_append, List.drop_append_of_le_length (by rw [rows_len (f := eI), List.length_replicate]; simp; omega), List.drop_eq_nil_of_le (by rw [rows_len (f := eI), List.length_replicate]; simp; omega)]
    rfl
  rw [t1, t2]
  unfold otF
  rw [e2, e3, rows_append, rows_cons, List.append_assoc]
  rfl

/- boule/units.Portions · slots 77 · names 0:n 1:weights 2:n 3:weights 6:within 7:all 8:_ 9:w 10:out 11:left 12:upto 13:i 14:w 15:before 16:_ 17:_ · results [4, 5] -/
def ir10_r0 : IC := .reg [⟨some 2, none, false, .box (.t 0)⟩,
  ⟨some 4, none, false, .mv (.k (.slice none 0 0))⟩,
  ⟨some 5, none, false, .mv (.k (.int .i64 0))⟩] (some [1, 2])
def ir10_r1 : IC := .reg [⟨some 6, none, false, .alloc [.nilFunc]⟩,
  ⟨none, none, false, .st 1 (.t 6) (.f 31)⟩] (some [1, 2, 6])
def ir10_r2 : IC := .reg [⟨some 19, none, false, .mv (.t 1)⟩,
  ⟨some 20, none, false, .len (.t 19)⟩,
  ⟨some 21, none, false, .cmp .gtr (.t 20) (.k (.int .i64 100))⟩,
  ⟨some 18, none, false, .mv (.t 21)⟩] (some [1, 2, 6, 18])
def ir10_r3 : IC := .reg [⟨some 4, none, false, .mv (.k (.slice none 0 0))⟩,
  ⟨some 5, none, false, .mv (.k (.int .i64 5))⟩] (some [4, 5])
def ir10_1 : IC := .seq ir10_r3 .ret
def ir10_r4 : IC := .reg [⟨some 23, none, false, .ldc (.t 6)⟩,
  ⟨some 24, none, false, .ldc (.t 2)⟩,
  ⟨some 25, none, false, .call (.t 23) [(.t 24)]⟩,
  ⟨some 26, none, false, .not (.t 25)⟩,
  ⟨some 27, none, false, .mv (.t 26)⟩,
  ⟨some 28, some (27, false), false, .mv (.t 1)⟩,
  ⟨some 29, some (27, false), false, .mkf 33 [] [(.t 6)]⟩,
  ⟨some 30, some (27, false), false, .call (.f 32) [(.t 28), (.t 29)]⟩,
  ⟨some 31, none, false, .pick (.t 27) (.k (.bool true)) (.t 30)⟩,
  ⟨some 22, none, false, .mv (.t 31)⟩] (some [1, 2, 22])
def ir10_r5 : IC := .reg [⟨some 4, none, false, .mv (.k (.slice none 0 0))⟩,
  ⟨some 5, none, false, .mv (.k (.int .i64 3))⟩] (some [4, 5])
def ir10_2 : IC := .seq ir10_r5 .ret
def ir10_3 : IC := .cond (.t 22) ir10_2 .skip
def ir10_4 : IC := .seq ir10_r4 ir10_3
def ir10_5 : IC := .cond (.t 18) ir10_1 ir10_4
def ir10_6 : IC := .seq ir10_r2 ir10_5
def ir10_7 : IC := .block 0 ir10_6
def ir10_r6 : IC := .reg [⟨some 7, none, false, .alloc [(.int .i64 0)]⟩,
  ⟨none, none, false, .st 1 (.t 7) (.k (.int .i64 0))⟩] (some [1, 2, 7])
def ir10_r7 : IC := .reg [⟨some 32, none, false, .mv (.t 1)⟩,
  ⟨some 33, none, false, .len (.t 32)⟩,
  ⟨some 34, none, false, .mv (.k (.int .i64 0))⟩] (some [1, 2, 7, 32, 33, 34])
def ir10_r8 : IC := .reg [⟨some 35, none, false, .cmp .lss (.t 34) (.t 33)⟩] (some [1, 2, 7, 32, 33, 34, 35])
def ir10_8 : IC := .cond (.t 35) .skip (.exit 1)
def ir10_r9 : IC := .reg [⟨some 36, none, false, .iad 1 (.t 32) (.t 34)⟩,
  ⟨some 37, none, false, .ldc (.t 36)⟩,
  ⟨some 9, none, false, .mv (.t 37)⟩] (some [1, 2, 7, 9, 32, 33, 34])
def ir10_r10 : IC := .reg [⟨some 38, none, false, .ldc (.t 7)⟩,
  ⟨some 39, none, false, .mv (.t 9)⟩,
  ⟨some 40, none, false, .ar .add (.t 38) (.t 39)⟩,
  ⟨none, none, false, .st 1 (.t 7) (.t 40)⟩] (some [1, 2, 7, 32, 33, 34])
def ir10_9 : IC := .seq ir10_r9 ir10_r10
def ir10_10 : IC := .block 2 ir10_9
def ir10_r11 : IC := .reg [⟨some 41, none, false, .ar .add (.t 34) (.k (.int .i64 1))⟩,
  ⟨some 34, none, false, .mv (.t 41)⟩] (some [1, 2, 7, 32, 33, 34])
def ir10_11 : IC := .seq ir10_10 ir10_r11
def ir10_12 : IC := .seq ir10_8 ir10_11
def ir10_13 : IC := .seq ir10_r8 ir10_12
def ir10_14 : IC := .loop ir10_13
def ir10_15 : IC := .block 1 ir10_14
def ir10_16 : IC := .seq ir10_r7 ir10_15
def ir10_r12 : IC := .reg [⟨some 43, none, false, .ldc (.t 7)⟩,
  ⟨some 44, none, false, .cmp .gtr (.t 43) (.k (.int .i64 1000000000000000))⟩,
  ⟨some 42, none, false, .mv (.t 44)⟩] (some [1, 2, 7, 42])
def ir10_r13 : IC := .reg [⟨some 4, none, false, .mv (.k (.slice none 0 0))⟩,
  ⟨some 5, none, false, .mv (.k (.int .i64 10))⟩] (some [4, 5])
def ir10_17 : IC := .seq ir10_r13 .ret
def ir10_r14 : IC := .reg [⟨some 46, none, false, .ldc (.t 7)⟩,
  ⟨some 47, none, false, .cmp .eql (.t 46) (.k (.int .i64 0))⟩,
  ⟨some 45, none, false, .mv (.t 47)⟩] (some [1, 2, 7, 45])
def ir10_r15 : IC := .reg [⟨some 4, none, false, .mv (.k (.slice none 0 0))⟩,
  ⟨some 5, none, false, .mv (.k (.int .i64 2))⟩] (some [4, 5])
def ir10_18 : IC := .seq ir10_r15 .ret
def ir10_19 : IC := .cond (.t 45) ir10_18 .skip
def ir10_20 : IC := .seq ir10_r14 ir10_19
def ir10_21 : IC := .cond (.t 42) ir10_17 ir10_20
def ir10_22 : IC := .seq ir10_r12 ir10_21
def ir10_23 : IC := .block 3 ir10_22
def ir10_r16 : IC := .reg [⟨some 48, none, false, .mv (.t 1)⟩,
  ⟨some 49, none, false, .len (.t 48)⟩,
  ⟨some 50, none, false, .mks 1 [(.int .i64 0)] (.t 49) (.t 49)⟩,
  ⟨some 10, none, false, .alloc [(.slice none 0 0)]⟩,
  ⟨none, none, false, .st 1 (.t 10) (.t 50)⟩] (some [1, 2, 7, 10])
def ir10_r17 : IC := .draw [(⟨some 51, none, false, .ldc (.t 2)⟩, false, 0, 1),
  (⟨some 52, none, false, .ldc (.t 7)⟩, false, 0, 1),
  (⟨some 11, none, false, .alloc [(.int .i64 0)]⟩, false, 0, 1),
  (⟨some 12, none, false, .alloc [(.int .i64 0)]⟩, false, 0, 1),
  (⟨none, none, false, .st 1 (.t 11) (.t 51)⟩, true, 13, 7222),
  (⟨none, none, false, .st 1 (.t 12) (.t 52)⟩, true, 31, 0)] (some [1, 2, 7, 10, 11, 12])
def ir10_r18 : IC := .reg [⟨some 53, none, false, .mv (.t 1)⟩,
  ⟨some 54, none, false, .call (.f 34) [(.t 53)]⟩] (some [2, 7, 10, 11, 12, 54])
def ir10_r19 : IC := .reg [⟨some 13, none, false, .mv (.t 55)⟩] (some [2, 7, 10, 11, 12, 13, 56])
def ir10_r20 : IC := .reg [⟨some 14, none, false, .mv (.t 56)⟩] (some [2, 7, 10, 11, 12, 13, 14])
def ir10_24 : IC := .seq ir10_r19 ir10_r20
def ir10_r21 : IC := .reg [⟨some 57, none, false, .ldc (.t 12)⟩,
  ⟨some 58, none, false, .mv (.t 14)⟩,
  ⟨some 59, none, false, .ar .sub (.t 57) (.t 58)⟩,
  ⟨none, none, false, .st 1 (.t 12) (.t 59)⟩] (some [2, 7, 10, 11, 12, 13])
def ir10_r22 : IC := .draw [(⟨some 61, none, false, .ldc (.t 2)⟩, false, 0, 1),
  (⟨some 62, none, false, .ldc (.t 12)⟩, false, 0, 1),
  (⟨some 63, none, false, .call (.f 35) [(.t 61), (.t 62)]⟩, false, 3, 1),
  (⟨some 64, none, false, .ldc (.t 7)⟩, false, 0, 4),
  (⟨some 65, none, false, .call (.f 36) [(.t 63), (.t 64)]⟩, true, 15, 0),
  (⟨some 60, none, false, .mv (.t 65)⟩, false, 31, 0),
  (⟨some 66, none, false, .ext (.t 60) 0⟩, false, 63, 0),
  (⟨some 67, none, false, .ext (.t 60) 1⟩, false, 63, 0),
  (⟨some 68, none, false, .ext (.t 60) 2⟩, false, 63, 0),
  (⟨some 15, none, false, .mv (.t 66)⟩, false, 127, 0),
  (⟨some 16, none, false, .mv (.t 67)⟩, false, 767, 0),
  (⟨some 17, none, false, .mv (.t 68)⟩, false, 2047, 0)] (some [10, 11, 13, 15])
def ir10_r23 : IC := .reg [⟨some 69, none, false, .ldc (.t 10)⟩,
  ⟨some 70, none, false, .mv (.t 13)⟩,
  ⟨some 71, none, false, .ldc (.t 11)⟩,
  ⟨some 72, none, false, .mv (.t 15)⟩,
  ⟨some 73, none, false, .ar .sub (.t 71) (.t 72)⟩,
  ⟨some 74, none, false, .mv (.t 15)⟩,
  ⟨some 75, none, false, .iad 1 (.t 69) (.t 70)⟩,
  ⟨none, none, false, .st 1 (.t 75) (.t 73)⟩,
  ⟨none, none, false, .st 1 (.t 11) (.t 74)⟩] (some [])
def ir10_25 : IC := .seq ir10_r22 ir10_r23
def ir10_26 : IC := .seq ir10_r21 ir10_25
def ir10_27 : IC := .block 5 ir10_26
def ir10_28 : IC := .rf (.t 54) [55, 56] ir10_24 ir10_27 (some [10])
def ir10_29 : IC := .block 4 ir10_28
def ir10_30 : IC := .seq ir10_r18 ir10_29
def ir10_r24 : IC := .reg [⟨some 76, none, false, .ldc (.t 10)⟩,
  ⟨some 4, none, false, .mv (.t 76)⟩,
  ⟨some 5, none, false, .mv (.k (.int .i64 0))⟩] (some [4, 5])
def ir10_31 : IC := .seq ir10_r24 .ret
def ir10_32 : IC := .seq ir10_30 ir10_31
def ir10_33 : IC := .seq ir10_r17 ir10_32
def ir10_34 : IC := .seq ir10_r16 ir10_33
def ir10_35 : IC := .seq ir10_23 ir10_34
def ir10_36 : IC := .seq ir10_16 ir10_35
def ir10_37 : IC := .seq ir10_r6 ir10_36
def ir10_38 : IC := .seq ir10_7 ir10_37
def ir10_39 : IC := .seq ir10_r1 ir10_38
def ir10_40 : IC := .seq ir10_r0 ir10_39
def ir10 : IC := ir10_40
theorem fn10 : FnIs Try.prog 10 ir10 77 [.tmp 4, .tmp 5] := ⟨Try.f10, Try.f10.body.getD .skip, Try.func10, by kernel_rfl, by kernel_rfl, by kernel_rfl, by kernel_rfl⟩
theorem portionsE_c (n : Int) (ws : List Int) (m c : Nat) (hm : ws.length = m) (hm1 : m ≤ 100) (hn : inB n 0 1000000000000000 = false) :
    Fc Try.prog 10 [.int .i64 n, s1 m c] (H1 (rows eI ws)) (.tuple #[.slice none 0 0, .int .i64 3]) (H1 (rows eI ws)) := by
  refine Fc.intro0 fn10 (by simp) rfl rfl ?_; simp only [argF]
  have g1 : ¬ (100 : Int) < m := by omega
  refine ITri.seq ?_
  refine ITri.reg pok ?_; simp -implicitDefEqProofs (disch := first | decide | exact of_eq_true (eq_true rfl) | omega | assumption) only [ ↓vcD, vcE, ↓vcG, vcF, evs, evP, evB, intsOf, fillC, Value.cells, pt, Value.oneCell', reduceIte, reduceCtorEq, Nat.reduceEqDiff, Nat.reduceAdd, Nat.reduceMul, Nat.reduceLT, Nat.reduceBEq, Nat.reduceLeDiff, Nat.reduceSub] -- r0 units.go:144
  refine ITri.seq ?_
  refine ITri.reg pok ?_; simp -implicitDefEqProofs (disch := first | decide | exact of_eq_true (eq_true rfl) | omega | assumption) only [ ↓vcD, vcE, ↓vcG, vcF, evs, evP, evB, intsOf, fillC, Value.cells, pt, Value.oneCell', reduceIte, reduceCtorEq, Nat.reduceEqDiff, Nat.reduceAdd, Nat.reduceMul, Nat.reduceLT, Nat.reduceBEq, Nat.reduceLeDiff, Nat.reduceSub] -- r1 units.go:145
  refine ITri.seq ?_
  refine ITri.block ?_ -- 0
  refine ITri.seq ?_
  refine ITri.reg pok ?_; simp -implicitDefEqProofs (disch := first | decide | exact of_eq_true (eq_true rfl) | omega | assumption) only [g1, decide_false,  ↓vcD, vcE, ↓vcG, vcF, evs, evP, evB, intsOf, fillC, Value.cells, pt, Value.oneCell', reduceIte, reduceCtorEq, Nat.reduceEqDiff, Nat.reduceAdd, Nat.reduceMul, Nat.reduceLT, Nat.reduceBEq, Nat.reduceLeDiff, Nat.reduceSub] -- r2 units.go:147
  refine ITri.cond (v := false) rfl (fun h => by cases h) (fun _ => ?_)
  refine ITri.seq ?_
  refine ITri.reg pok ?_; simp -implicitDefEqProofs (disch := first | decide | exact of_eq_true (eq_true rfl) | omega | assumption) only [ ↓vcD, vcE, ↓vcG, vcF, evs, evP, evB, intsOf, fillC, Value.cells, pt, Value.oneCell', reduceIte, reduceCtorEq, Nat.reduceEqDiff, Nat.reduceAdd, Nat.reduceMul, Nat.reduceLT, Nat.reduceBEq, Nat.reduceLeDiff, Nat.reduceSub] -- r4 units.go:149 CALLS .call %23 [%24] .call F32 [%28, %29] GUARDS [27] live [1, 2, 22]
  refine ⟨_, _, num_f n (sees0 rfl (of_decide_eq_true rfl)), ?_⟩
  simp -implicitDefEqProofs (disch := first | decide | exact of_eq_true (eq_true rfl) | omega | assumption) only [hn,  ↓vcD, vcE, ↓vcG, vcF, evs, evP, evB, intsOf, fillC, Value.cells, pt, Value.oneCell', reduceIte, reduceCtorEq, Nat.reduceEqDiff, Nat.reduceAdd, Nat.reduceMul, Nat.reduceLT, Nat.reduceBEq, Nat.reduceLeDiff, Nat.reduceSub]
  refine ITri.cond (v := true) rfl (fun _ => ?_) (fun h => by cases h)
  refine ITri.seq ?_
  refine ITri.reg pok ?_; simp -implicitDefEqProofs (disch := first | decide | exact of_eq_true (eq_true rfl) | omega | assumption) only [ ↓vcD, vcE, ↓vcG, vcF, evs, evP, evB, intsOf, fillC, Value.cells, pt, Value.oneCell', reduceIte, reduceCtorEq, Nat.reduceEqDiff, Nat.reduceAdd, Nat.reduceMul, Nat.reduceLT, Nat.reduceBEq, Nat.reduceLeDiff, Nat.reduceSub] -- r5 units.go:150
  refine ITri.ret ?_; exact EndR.plain (vs := [.slice none 0 0, .int .i64 3]) (by simp) (by rfl) (by rfl) (by rfl)
abbrev poL (n : Int) (ws : List Int) (m c j : Nat) : List (Option AObj) := [none, some (.cells ⟨rows eI ws, 0, false⟩), some (.cells ⟨[.int .i64 n], 1, false⟩), some (.cells ⟨[.int .i64 (pS ws m)], 1, false⟩), some (.cells ⟨rows eI (otF n ws m j), 1, true⟩), some (.cells ⟨[sO 4 m], 1, false⟩), some (.cells ⟨[.int .i64 (qF n ws (m - j))], 1, false⟩), some (.cells ⟨[.int .i64 (pS ws (m - j))], 1, false⟩), some (.cells ⟨[s1 m c], 1, false⟩)]
abbrev poF0 (m c : Nat) : Fr := [(2, pt 2), (7, pt 3), (10, pt 5), (11, pt 6), (12, pt 7), (54, fB 65 8)]
abbrev poLo (m c : Nat) (px : Array Tmp) (cx cy : Code) (st : LoopState) : Option AObj := some (.loop ⟨st, none, trOf (poF0 m c), 77, px, cx, cy, 9⟩)
theorem po_yield (n : Int) (ws : List Int) (m c : Nat) {px : Array Tmp} {cx cy : Code} (hpx : px.toList = [55, 56]) (hcx : rC Try.prog 77 cx = some ir10_24.er) (hcy : rC Try.prog 77 cy = some ir10_27.er) (hm : ws.length = m) (hm1 : m ≤ 100) (n1 : 0 ≤ n) (n2 : n ≤ 1000000000000000) (hw : ∀ x ∈ ws, 0 ≤ x ∧ x ≤ 600000000) (hs : 1 ≤ pS ws m ∧ pS ws m ≤ 600000000) (j : Nat) (hj : j < m) :
    Yl Try.prog 10 [.int .i64 (m - 1 - j : Nat), .int .i64 (nth ws (m - 1 - j))] (Hp 2 (poL n ws m c j ++ [DT, poLo m c px cx cy .ready])) (.bool true) (Hp 2 (poL n ws m c (j + 1) ++ [DT, poLo m c px cx cy .ready])) := by
  have e1 : m - j = (m - 1 - j) + 1 := by omega
  have e2 : m - (j + 1) = m - 1 - j := by omega
  have hot := otF_step (n := n) (ws := ws) hj
  have hol : (rows eI (otF n ws m j)).length = m := by rw [rows_len (f := eI), otF_len (by omega)]; simp
  have hsu := pS_succ (xs := ws) (k := m - 1 - j) (by omega)
  rw [← e1] at hsu
  have hpos : ∀ x ∈ ws, 0 ≤ x := fun x hx => (hw x hx).1
  have m1 := pS_mono hpos (i := m - 1 - j) (j := m) (by omega) (by omega)
  have m2 := pS_mono hpos (i := 0) (j := m - 1 - j) (by omega) (by omega)
  have m3 := pS_mono hpos (i := m - j) (j := m) (by omega) (by omega)
  rw [pS_0] at m2
  have q1 := qF_bd hpos (n := n) (by rw [hm]; omega) n1 (i := m - j) (by omega)
  have q2 := qF_bd hpos (n := n) (by rw [hm]; omega) n1 (i := m - 1 - j) (by omega)
  have hq : n * pS ws (m - 1 - j) / pS ws m = qF n ws (m - 1 - j) := by unfold qF; rw [hm]
  have hx0 : 0 ≤ nth ws (m - 1 - j) := hpos _ (nth_mem (by omega))
  have hsu2 : pS ws (m - j) - nth ws (m - 1 - j) = pS ws (m - 1 - j) := by omega
  have ho : ∀ {h : AH}, h.sees 0 = true → Fc Try.prog 36 [.agg #[.int .u64 (n * pS ws (m - 1 - j) / 18446744073709551616), .int .u64 (n * pS ws (m - 1 - j) % 18446744073709551616), .bool false], .int .i64 (pS ws m)] h (.tuple #[.int .i64 (qF n ws (m - 1 - j)), .int .i64 (n * pS ws (m - 1 - j) % pS ws m), .bool true]) h := fun hs => by
    have := overW_f (n * pS ws (m - 1 - j)) (pS ws m) (Int.mul_nonneg n1 m2) (by omega) (by omega) (by rw [hq]; omega) hs
    rwa [hq] at this
  have hp : ∀ {h : AH}, h.sees 0 = true → Fc Try.prog 35 [.int .i64 n, .int .i64 (pS ws (m - 1 - j))] h (.agg #[.int .u64 (n * pS ws (m - 1 - j) / 18446744073709551616), .int .u64 (n * pS ws (m - 1 - j) % 18446744073709551616), .bool false]) h := fun hs => productW_f n (pS ws (m - 1 - j)) n1 m2 n2 (by omega) hs
  generalize n * pS ws (m - 1 - j) / 18446744073709551616 = z1 at *
  generalize n * pS ws (m - 1 - j) % 18446744073709551616 = z2 at *
  generalize n * pS ws (m - 1 - j) % pS ws m = z3 at *
  refine Yl.introI (dn := 9) (lf := poF0 m c) (pd := none) (by rw [Hp_get]; rfl) hpx hcx hcy rfl (by show 2 ≤ 10; omega) rfl (fun _ => grow_hq (by simp) (by simp)) ?_
  refine ITri.seq ?_
  refine ITri.reg pok ?_; simp -implicitDefEqProofs (disch := first | decide | exact of_eq_true (eq_true rfl) | omega | assumption) only [ ↓vcD, vcE, ↓vcG, vcF, evs, evP, evB, intsOf, fillC, Value.cells, pt, Value.oneCell', reduceIte, reduceCtorEq, Nat.reduceEqDiff, Nat.reduceAdd, Nat.reduceMul, Nat.reduceLT, Nat.reduceBEq, Nat.reduceLeDiff, Nat.reduceSub] -- r19
  refine ITri.reg pok ?_; simp -implicitDefEqProofs (disch := first | decide | exact of_eq_true (eq_true rfl) | omega | assumption) only [ ↓vcD, vcE, ↓vcG, vcF, evs, evP, evB, intsOf, fillC, Value.cells, pt, Value.oneCell', reduceIte, reduceCtorEq, Nat.reduceEqDiff, Nat.reduceAdd, Nat.reduceMul, Nat.reduceLT, Nat.reduceBEq, Nat.reduceLeDiff, Nat.reduceSub] -- r20
  refine ⟨rfl, ⟨.ready, none, trOf (poF0 m c), 77, px, cx, cy, 9⟩, (by rw [Hp_get]; rfl), rfl, ?_⟩
  rw [Hq_put _ _ (by simp)]
  simp only [List.cons_append, List.nil_append, List.set_cons_succ, List.set_cons_zero]
  refine ITri.block ?_
  refine ITri.seq ?_
  refine ITri.reg pok ?_; simp -implicitDefEqProofs (disch := first | decide | exact of_eq_true (eq_true rfl) | omega | assumption) only [hsu2,  ↓vcD, vcE, ↓vcG, vcF, evs, evP, evB, intsOf, fillC, Value.cells, pt, Value.oneCell', reduceIte, reduceCtorEq, Nat.reduceEqDiff, Nat.reduceAdd, Nat.reduceMul, Nat.reduceLT, Nat.reduceBEq, Nat.reduceLeDiff, Nat.reduceSub] -- r21
  refine ITri.seq ?_
  refine ITri.draw pok ?_; simp -implicitDefEqProofs (disch := first | decide | exact of_eq_true (eq_true rfl) | omega | assumption) only [ ↓vcD, vcE, ↓vcG, vcF, evs, evP, evB, intsOf, fillC, Value.cells, pt, Value.oneCell', reduceIte, reduceCtorEq, Nat.reduceEqDiff, Nat.reduceAdd, Nat.reduceMul, Nat.reduceLT, Nat.reduceBEq, Nat.reduceLeDiff, Nat.reduceSub] -- r22
  refine ⟨_, _, hp (sees0 rfl (of_decide_eq_true rfl)), ?_⟩
  try simp -implicitDefEqProofs (disch := first | decide | exact of_eq_true (eq_true rfl) | omega | assumption) only [ ↓vcD, vcE, ↓vcG, vcF, evs, evP, evB, intsOf, fillC, Value.cells, pt, Value.oneCell', reduceIte, reduceCtorEq, Nat.reduceEqDiff, Nat.reduceAdd, Nat.reduceMul, Nat.reduceLT, Nat.reduceBEq, Nat.reduceLeDiff, Nat.reduceSub]
  refine ⟨_, _, ho (sees0 rfl (of_decide_eq_true rfl)), ?_⟩
  try simp -implicitDefEqProofs (disch := first | decide | exact of_eq_true (eq_true rfl) | omega | assumption) only [ ↓vcD, vcE, ↓vcG, vcF, evs, evP, evB, intsOf, fillC, Value.cells, pt, Value.oneCell', reduceIte, reduceCtorEq, Nat.reduceEqDiff, Nat.reduceAdd, Nat.reduceMul, Nat.reduceLT, Nat.reduceBEq, Nat.reduceLeDiff, Nat.reduceSub]
  refine ITri.reg pok ?_; simp -implicitDefEqProofs (disch := first | decide | exact of_eq_true (eq_true rfl) | omega | assumption) only [hol, hot, Int.toNat_natCast,  ↓vcD, vcE, ↓vcG, vcF, evs, evP, evB, intsOf, fillC, Value.cells, pt, Value.oneCell', reduceIte, reduceCtorEq, Nat.reduceEqDiff, Nat.reduceAdd, Nat.reduceMul, Nat.reduceLT, Nat.reduceBEq, Nat.reduceLeDiff, Nat.reduceSub] -- r23
  rw [e2]
  refine ⟨_, (by rw [Hp_get]; rfl), rfl, ?_⟩
  rw [Hq_put _ _ (by simp)]
  rfl
set_option maxHeartbeats 1000000 in
theorem portions_c (n : Int) (ws : List Int) (m c : Nat) (hm : ws.length = m) (hm1 : m ≤ 100) (hn : inB n 0 1000000000000000 = true) (hw : ∀ x ∈ ws, 0 ≤ x ∧ x ≤ 600000000) (hs : 1 ≤ pS ws m ∧ pS ws m ≤ 600000000) :
    Fc Try.prog 10 [.int .i64 n, s1 m c] (H1 (rows eI ws)) (.tuple #[sO 2 m, .int .i64 0]) ((H1 (rows eI ws)).news [.cells ⟨rows eI (shF n ws m), 1, true⟩]) := by
  obtain ⟨n1, n2⟩ := in_ok hn
  have g1 : ¬ (100 : Int) < m := by omega
  have hps := fun k (hk : k ≤ m) => pS_le hw (by omega) k (by omega : k ≤ ws.length)
  have hps2 : ∀ k, k ≤ m → 0 ≤ pS ws k ∧ pS ws k ≤ 1000000000000000 := fun k hk => by
    have := hps k (by omega)
    have : k ≤ 100 := by omega
    omega
  have hany : ws.any (fun x => !inB x 0 1000000000000000) = false := by
    rw [List.any_eq_false]
    intro x hx
    have := hw x hx
    unfold inB
    rw [decide_eq_true (by omega), decide_eq_true (by omega)]
    simp
  have g2 : ¬ (1000000000000000 : Int) < pS ws m := by omega
  have g3 : ¬ pS ws m = 0 := by omega
  refine Fc.introM (os := [.cells ⟨rows eI (shF n ws m), 1, true⟩]) fn10 (by simp) rfl rfl ?_; simp only [argF]
  refine ITri.seq ?_
  refine ITri.reg pok ?_; simp -implicitDefEqProofs (disch := first | decide | exact of_eq_true (eq_true rfl) | omega | assumption) only [ ↓vcD, vcE, ↓vcG, vcF, evs, evP, evB, intsOf, fillC, Value.cells, pt, Value.oneCell', reduceIte, reduceCtorEq, Nat.reduceEqDiff, Nat.reduceAdd, Nat.reduceMul, Nat.reduceLT, Nat.reduceBEq, Nat.reduceLeDiff, Nat.reduceSub] -- r0 units.go:144
  refine ITri.seq ?_
  refine ITri.reg pok ?_; simp -implicitDefEqProofs (disch := first | decide | exact of_eq_true (eq_true rfl) | omega | assumption) only [ ↓vcD, vcE, ↓vcG, vcF, evs, evP, evB, intsOf, fillC, Value.cells, pt, Value.oneCell', reduceIte, reduceCtorEq, Nat.reduceEqDiff, Nat.reduceAdd, Nat.reduceMul, Nat.reduceLT, Nat.reduceBEq, Nat.reduceLeDiff, Nat.reduceSub] -- r1 units.go:145
  refine ITri.seq ?_
  refine ITri.block ?_ -- 0
  refine ITri.seq ?_
  refine ITri.reg pok ?_; simp -implicitDefEqProofs (disch := first | decide | exact of_eq_true (eq_true rfl) | omega | assumption) only [g1, decide_false,  ↓vcD, vcE, ↓vcG, vcF, evs, evP, evB, intsOf, fillC, Value.cells, pt, Value.oneCell', reduceIte, reduceCtorEq, Nat.reduceEqDiff, Nat.reduceAdd, Nat.reduceMul, Nat.reduceLT, Nat.reduceBEq, Nat.reduceLeDiff, Nat.reduceSub] -- r2 units.go:147
  refine ITri.cond (v := false) rfl (fun h => by cases h) (fun _ => ?_)
  refine ITri.seq ?_
  refine ITri.reg pok ?_; simp -implicitDefEqProofs (disch := first | decide | exact of_eq_true (eq_true rfl) | omega | assumption) only [ ↓vcD, vcE, ↓vcG, vcF, evs, evP, evB, intsOf, fillC, Value.cells, pt, Value.oneCell', reduceIte, reduceCtorEq, Nat.reduceEqDiff, Nat.reduceAdd, Nat.reduceMul, Nat.reduceLT, Nat.reduceBEq, Nat.reduceLeDiff, Nat.reduceSub] -- r4 units.go:149 CALLS .call %23 [%24] .call F32 [%28, %29] GUARDS [27] live [1, 2, 22]
  refine ⟨_, _, num_f n (sees0 rfl (of_decide_eq_true rfl)), ?_⟩
  simp -implicitDefEqProofs (disch := first | decide | exact of_eq_true (eq_true rfl) | omega | assumption) only [hn,  ↓vcD, vcE, ↓vcG, vcF, evs, evP, evB, intsOf, fillC, Value.cells, pt, Value.oneCell', reduceIte, reduceCtorEq, Nat.reduceEqDiff, Nat.reduceAdd, Nat.reduceMul, Nat.reduceLT, Nat.reduceBEq, Nat.reduceLeDiff, Nat.reduceSub]
  refine ⟨_, _, containsB_f 33 _ [wiV] rfl ws m (nnum_f _) hm (by omega) (sees0 rfl (of_decide_eq_true rfl)) (get_hq rfl rfl) (Rd.hq rfl rfl), ?_⟩
  simp -implicitDefEqProofs (disch := first | decide | exact of_eq_true (eq_true rfl) | omega | assumption) only [hany,  ↓vcD, vcE, ↓vcG, vcF, evs, evP, evB, intsOf, fillC, Value.cells, pt, Value.oneCell', reduceIte, reduceCtorEq, Nat.reduceEqDiff, Nat.reduceAdd, Nat.reduceMul, Nat.reduceLT, Nat.reduceBEq, Nat.reduceLeDiff, Nat.reduceSub]
  refine ITri.cond (v := false) rfl (fun h => by cases h) (fun _ => ?_); refine ITri.skip ?_; simp only [SeqQ_normal, BlkQ_normal]
  refine ITri.seq ?_
  refine ITri.reg pok ?_; simp -implicitDefEqProofs (disch := first | decide | exact of_eq_true (eq_true rfl) | omega | assumption) only [ ↓vcD, vcE, ↓vcG, vcF, evs, evP, evB, intsOf, fillC, Value.cells, pt, Value.oneCell', reduceIte, reduceCtorEq, Nat.reduceEqDiff, Nat.reduceAdd, Nat.reduceMul, Nat.reduceLT, Nat.reduceBEq, Nat.reduceLeDiff, Nat.reduceSub] -- r6 units.go:152
  refine ITri.seq ?_
  refine ITri.seq ?_
  refine ITri.reg pok ?_; simp -implicitDefEqProofs (disch := first | decide | exact of_eq_true (eq_true rfl) | omega | assumption) only [ ↓vcD, vcE, ↓vcG, vcF, evs, evP, evB, intsOf, fillC, Value.cells, pt, Value.oneCell', reduceIte, reduceCtorEq, Nat.reduceEqDiff, Nat.reduceAdd, Nat.reduceMul, Nat.reduceLT, Nat.reduceBEq, Nat.reduceLeDiff, Nat.reduceSub] -- r7 units.go:153
  refine ITri.block ?_ -- 1
  refine ITri.loop (fun k : Nat => [(1, s1 m c), (2, pt 2), (7, pt 3), (32, s1 m c), (33, .int .i64 m), (34, .int .i64 k)]) (fun _ => []) (fun k => Hp 2 [none, some (.cells ⟨rows eI ws, 0, false⟩), some (.cells ⟨[.int .i64 n], 1, false⟩), some (.cells ⟨[.int .i64 (pS ws k)], 1, false⟩)]) (fun k => k ≤ m) (fun k => m - k) 0 (by omega) (Wk.gc [0, 1, 2, 4] [] (of_decide_eq_true rfl) (of_decide_eq_true rfl) rfl rfl (of_decide_eq_true rfl) rfl rfl (by repeat (first | exact xiOK_nil | refine xiOK_cons (by first | trivial | exact roomOK _ (by decide)) ?_)) rfl (by simp -implicitDefEqProofs (disch := first | decide | exact of_eq_true (eq_true rfl) | omega | assumption) only [pS_0, objOK, sgL, xiL, objAt, nilO, OM, mvL, mv, mvS, okS, okP, mvL_rows, okML, okM, okML_rows, List.getElem?_cons_zero, Option.getD_some, implies_true, imp_self, ne_eq, and_self, true_or, or_true, Nat.zero_mul, Nat.sub_self, openB_self, ↓vcD, vcE, ↓vcG, vcF, evs, evP, evB, intsOf, fillC, Value.cells, pt, Value.oneCell', reduceIte, reduceCtorEq, Nat.reduceEqDiff, Nat.reduceAdd, Nat.reduceMul, Nat.reduceLT, Nat.reduceBEq, Nat.reduceLeDiff, Nat.reduceSub]) (by simp -implicitDefEqProofs (disch := first | decide | exact of_eq_true (eq_true rfl) | omega | assumption) only [pS_0, valOK, sgL, xiL, mv, mvA, mvL, mvS, okS, okP, okM, okMA, okML, Option.getD_some, implies_true, and_self, true_or, or_true, Int.natCast_add, Int.cast_ofNat_Int, Nat.zero_mul, Nat.sub_self, openB_self, ↓vcD, vcE, ↓vcG, vcF, evs, evP, evB, intsOf, fillC, Value.cells, pt, Value.oneCell', reduceIte, reduceCtorEq, Nat.reduceEqDiff, Nat.reduceAdd, Nat.reduceMul, Nat.reduceLT, Nat.reduceBEq, Nat.reduceLeDiff, Nat.reduceSub]) (fun _ h => by cases h) ⟨rfl, fun _ h => by cases h⟩) fun k hk => ?_
  refine ITri.seq ?_
  refine ITri.reg pok ?_; simp -implicitDefEqProofs (disch := first | decide | exact of_eq_true (eq_true rfl) | omega | assumption) only [ ↓vcD, vcE, ↓vcG, vcF, evs, evP, evB, intsOf, fillC, Value.cells, pt, Value.oneCell', reduceIte, reduceCtorEq, Nat.reduceEqDiff, Nat.reduceAdd, Nat.reduceMul, Nat.reduceLT, Nat.reduceBEq, Nat.reduceLeDiff, Nat.reduceSub] -- r8 units.go:153
  refine ITri.seq ?_
  refine ITri.condD (by rfl) (fun h4 => ?_) (fun h4 => ?_) -- %35
  · have hkr : k < ws.length := by omega
    have b1 := hps2 k hk
    have b2 := hps2 (k + 1) (by omega)
    have e1 := pS_succ hkr
    have gv := getI hkr
    refine ITri.skip ?_; simp only [SeqQ_normal, BlkQ_normal]
    refine ITri.seq ?_
    refine ITri.block ?_ -- 2
    refine ITri.seq ?_
    refine ITri.reg pok ?_; simp -implicitDefEqProofs (disch := first | decide | exact of_eq_true (eq_true rfl) | omega | assumption) only [gv,  ↓vcD, vcE, ↓vcG, vcF, evs, evP, evB, intsOf, fillC, Value.cells, pt, Value.oneCell', reduceIte, reduceCtorEq, Nat.reduceEqDiff, Nat.reduceAdd, Nat.reduceMul, Nat.reduceLT, Nat.reduceBEq, Nat.reduceLeDiff, Nat.reduceSub] -- r9 units.go:153
    refine ITri.reg pok ?_; simp -implicitDefEqProofs (disch := first | decide | exact of_eq_true (eq_true rfl) | omega | assumption) only [ ↓vcD, vcE, ↓vcG, vcF, evs, evP, evB, intsOf, fillC, Value.cells, pt, Value.oneCell', reduceIte, reduceCtorEq, Nat.reduceEqDiff, Nat.reduceAdd, Nat.reduceMul, Nat.reduceLT, Nat.reduceBEq, Nat.reduceLeDiff, Nat.reduceSub] -- r10 units.go:154
    rw [← e1]
    refine ITri.reg pok ?_; simp -implicitDefEqProofs (disch := first | decide | exact of_eq_true (eq_true rfl) | omega | assumption) only [ ↓vcD, vcE, ↓vcG, vcF, evs, evP, evB, intsOf, fillC, Value.cells, pt, Value.oneCell', reduceIte, reduceCtorEq, Nat.reduceEqDiff, Nat.reduceAdd, Nat.reduceMul, Nat.reduceLT, Nat.reduceBEq, Nat.reduceLeDiff, Nat.reduceSub] -- r11 units.go:153
    exact LoopQ.next (k + 1) (by omega) (by omega) (Wk.sub ⟨rfl, rfl, rfl, rfl, rfl, rfl, trivial⟩)
  refine ITri.exit ?_; try simp -implicitDefEqProofs (disch := first | decide | exact of_eq_true (eq_true rfl) | omega | assumption) only [ ↓vcD, vcE, ↓vcG, vcF, evs, evP, evB, intsOf, fillC, Value.cells, pt, Value.oneCell', reduceIte, reduceCtorEq, Nat.reduceEqDiff, Nat.reduceAdd, Nat.reduceMul, Nat.reduceLT, Nat.reduceBEq, Nat.reduceLeDiff, Nat.reduceSub]
  obtain rfl : m = k := by omega
  refine ITri.seq ?_
  refine ITri.block ?_ -- 3
  refine ITri.seq ?_
  refine ITri.reg pok ?_; simp -implicitDefEqProofs (disch := first | decide | exact of_eq_true (eq_true rfl) | omega | assumption) only [g2, decide_false,  ↓vcD, vcE, ↓vcG, vcF, evs, evP, evB, intsOf, fillC, Value.cells, pt, Value.oneCell', reduceIte, reduceCtorEq, Nat.reduceEqDiff, Nat.reduceAdd, Nat.reduceMul, Nat.reduceLT, Nat.reduceBEq, Nat.reduceLeDiff, Nat.reduceSub] -- r12 units.go:157
  refine ITri.cond (v := false) rfl (fun h => by cases h) (fun _ => ?_)
  refine ITri.seq ?_
  refine ITri.reg pok ?_; simp -implicitDefEqProofs (disch := first | decide | exact of_eq_true (eq_true rfl) | omega | assumption) only [g3, decide_false,  ↓vcD, vcE, ↓vcG, vcF, evs, evP, evB, intsOf, fillC, Value.cells, pt, Value.oneCell', reduceIte, reduceCtorEq, Nat.reduceEqDiff, Nat.reduceAdd, Nat.reduceMul, Nat.reduceLT, Nat.reduceBEq, Nat.reduceLeDiff, Nat.reduceSub] -- r14 units.go:159
  refine ITri.cond (v := false) rfl (fun h => by cases h) (fun _ => ?_); refine ITri.skip ?_; simp only [SeqQ_normal, BlkQ_normal]
  refine ITri.seq ?_
  refine ITri.reg pok ?_; simp -implicitDefEqProofs (disch := first | decide | exact of_eq_true (eq_true rfl) | omega | assumption) only [ ↓vcD, vcE, ↓vcG, vcF, evs, evP, evB, intsOf, fillC, Value.cells, pt, Value.oneCell', reduceIte, reduceCtorEq, Nat.reduceEqDiff, Nat.reduceAdd, Nat.reduceMul, Nat.reduceLT, Nat.reduceBEq, Nat.reduceLeDiff, Nat.reduceSub] -- r16 units.go:162
  have hrep : (List.replicate m [Value.int .i64 0]).flatten = rows eI (otF n ws m 0) := by
    rw [otF_0]
    unfold rows
    rw [List.flatMap_def, List.map_replicate]
    rfl
  rw [hrep]
  have hq0 : n = qF n ws (m - 0) := by rw [Nat.sub_zero]; have := qF_end (n := n) (l := ws) (by rw [hm]; omega); rw [hm] at this; exact this.symm
  refine ITri.seq ?_
  refine ITri.draw pok ?_; simp -implicitDefEqProofs (disch := first | decide | exact of_eq_true (eq_true rfl) | omega | assumption) only [ ↓vcD, vcE, ↓vcG, vcF, evs, evP, evB, intsOf, fillC, Value.cells, pt, Value.oneCell', reduceIte, reduceCtorEq, Nat.reduceEqDiff, Nat.reduceAdd, Nat.reduceMul, Nat.reduceLT, Nat.reduceBEq, Nat.reduceLeDiff, Nat.reduceSub] -- r17
  refine ITri.seq ?_
  refine ITri.seq ?_
  refine ITri.reg pok ?_; simp -implicitDefEqProofs (disch := first | decide | exact of_eq_true (eq_true rfl) | omega | assumption) only [ ↓vcD, vcE, ↓vcG, vcF, evs, evP, evB, intsOf, fillC, Value.cells, pt, Value.oneCell', reduceIte, reduceCtorEq, Nat.reduceEqDiff, Nat.reduceAdd, Nat.reduceMul, Nat.reduceLT, Nat.reduceBEq, Nat.reduceLeDiff, Nat.reduceSub] -- r18
  refine ⟨_, _, backward_f m c 1, ?_⟩
  try simp -implicitDefEqProofs (disch := first | decide | exact of_eq_true (eq_true rfl) | omega | assumption) only [ ↓vcD, vcE, ↓vcG, vcF, evs, evP, evB, intsOf, fillC, Value.cells, pt, Value.oneCell', reduceIte, reduceCtorEq, Nat.reduceEqDiff, Nat.reduceAdd, Nat.reduceMul, Nat.reduceLT, Nat.reduceBEq, Nat.reduceLeDiff, Nat.reduceSub]
  refine ITri.block ?_ -- 4
  refine ITri.weak (l' := poF0 m c) (ms' := []) (h' := Hp 2 (poL n ws m c 0)) ?_ ?_
  · have z1 : qF n ws m = n := by rw [Nat.sub_zero] at hq0; exact hq0.symm
    have z5 : (m = 0 ∨ 0 < m) := by omega
    have z3 : (rows eI (otF n ws m 0)).length = m := by rw [rows_len (f := eI), otF_len (by omega)]; simp
    have z2 : pS ws (m - 0) = pS ws m := rfl
    exact (Wk.gc [0, 1, 2, 3, 4, 5, 6, 7, 8] [(4, .room m)] (of_decide_eq_true rfl) (of_decide_eq_true rfl) rfl rfl (of_decide_eq_true rfl) rfl rfl (by repeat (first | exact xiOK_nil | refine xiOK_cons (by first | trivial | exact roomOK _ (by omega)) ?_)) rfl (by simp -implicitDefEqProofs (disch := first | decide | exact of_eq_true (eq_true rfl) | omega | assumption) only [z1, z2, z3, z5, Nat.le_refl, Nat.sub_zero, mvF, okFB, fB, objOK, sgL, xiL, objAt, nilO, OM, mvL, mv, mvS, okS, okP, mvL_rows, okML, okM, okML_rows, List.getElem?_cons_zero, Option.getD_some, implies_true, imp_self, ne_eq, and_self, true_or, or_true, Nat.zero_mul, Nat.sub_self, openB_self, ↓vcD, vcE, ↓vcG, vcF, evs, evP, evB, intsOf, fillC, Value.cells, pt, Value.oneCell', reduceIte, reduceCtorEq, Nat.reduceEqDiff, Nat.reduceAdd, Nat.reduceMul, Nat.reduceLT, Nat.reduceBEq, Nat.reduceLeDiff, Nat.reduceSub]) (by simp -implicitDefEqProofs (disch := first | decide | exact of_eq_true (eq_true rfl) | omega | assumption) only [z1, z2, z3, z5, Nat.le_refl, Nat.sub_zero, mvF, okFB, fB, valOK, sgL, xiL, mv, mvA, mvL, mvS, okS, okP, okM, okMA, okML, Option.getD_some, implies_true, and_self, true_or, or_true, Int.natCast_add, Int.cast_ofNat_Int, Nat.zero_mul, Nat.sub_self, openB_self, ↓vcD, vcE, ↓vcG, vcF, evs, evP, evB, intsOf, fillC, Value.cells, pt, Value.oneCell', reduceIte, reduceCtorEq, Nat.reduceEqDiff, Nat.reduceAdd, Nat.reduceMul, Nat.reduceLT, Nat.reduceBEq, Nat.reduceLeDiff, Nat.reduceSub]) (fun _ h => by cases h) ⟨rfl, fun _ h => by cases h⟩)
  refine ITri.rf pok (dn := 9) (m1 := [9]) (h1 := Hp 2 (poL n ws m c 0 ++ [DT])) (by rfl) (by rfl) fun px cx cy hpx hcx hcy => ?_
  have BL := back_f 10 8 1 m c ws (fun j => Hp 2 (poL n ws m c j ++ [DT, poLo m c px cx cy .ready])) hm (by omega) (fun _ => by simp -implicitDefEqProofs (disch := first | decide | exact of_eq_true (eq_true rfl) | omega | assumption) only [ ↓vcD, vcE, ↓vcG, vcF, evs, evP, evB, intsOf, fillC, Value.cells, pt, Value.oneCell', reduceIte, reduceCtorEq, Nat.reduceEqDiff, Nat.reduceAdd, Nat.reduceMul, Nat.reduceLT, Nat.reduceBEq, Nat.reduceLeDiff, Nat.reduceSub]) (fun _ i hi => by simp -implicitDefEqProofs (disch := first | decide | exact of_eq_true (eq_true rfl) | omega | assumption) only [getI,  ↓vcD, vcE, ↓vcG, vcF, evs, evP, evB, intsOf, fillC, Value.cells, pt, Value.oneCell', reduceIte, reduceCtorEq, Nat.reduceEqDiff, Nat.reduceAdd, Nat.reduceMul, Nat.reduceLT, Nat.reduceBEq, Nat.reduceLeDiff, Nat.reduceSub]) (fun _ => rfl) (fun j hj => po_yield n ws m c hpx hcx hcy hm hm1 n1 n2 hw hs j hj) (fun _ => grow_hq (by simp) (by simp))
  refine ⟨_, _, ⟨.ready, none, trOf (poF0 m c), 77, px, cx, cy, 9⟩, BL, (by show (Hp 2 _).get 10 = _; rw [Hp_get]; rfl), by simp, .normal, rfl, ?_⟩
  show _
  have hput : (Hp 2 (poL n ws m c m ++ [DT, poLo m c px cx cy .ready])).put 10 (poLo m c px cx cy .exhausted) = Hp 2 (poL n ws m c m ++ [DT, poLo m c px cx cy .exhausted]) := by
    rw [Hq_put _ _ (by simp)]
    rfl
  refine (show _ from ?_ : _)
  have : ∀ {Q : AH → Prop}, Q (Hp 2 (poL n ws m c m ++ [DT, poLo m c px cx cy .exhausted])) → Q ((Hp 2 (poL n ws m c m ++ [DT, poLo m c px cx cy .ready])).put 10 (poLo m c px cx cy .exhausted)) := fun {Q} q => by rw [hput]; exact q
  refine this ?_
  try simp -implicitDefEqProofs (disch := first | decide | exact of_eq_true (eq_true rfl) | omega | assumption) only [ ↓vcD, vcE, ↓vcG, vcF, evs, evP, evB, intsOf, fillC, Value.cells, pt, Value.oneCell', reduceIte, reduceCtorEq, Nat.reduceEqDiff, Nat.reduceAdd, Nat.reduceMul, Nat.reduceLT, Nat.reduceBEq, Nat.reduceLeDiff, Nat.reduceSub]
  refine ITri.seq ?_
  refine ITri.reg pok ?_; simp -implicitDefEqProofs (disch := first | decide | exact of_eq_true (eq_true rfl) | omega | assumption) only [ ↓vcD, vcE, ↓vcG, vcF, evs, evP, evB, intsOf, fillC, Value.cells, pt, Value.oneCell', reduceIte, reduceCtorEq, Nat.reduceEqDiff, Nat.reduceAdd, Nat.reduceMul, Nat.reduceLT, Nat.reduceBEq, Nat.reduceLeDiff, Nat.reduceSub] -- r24
  refine ITri.ret ?_
  refine ⟨Hp 2 (poL n ws m c m ++ [DF, poLo m c px cx cy .exhausted]), ?_, ?_⟩
  · have hg : (Hp 2 (poL n ws m c m ++ [DT, poLo m c px cx cy .exhausted])).get 9 = some (.deferred true) := by rw [Hp_get]; rfl
    refine Eq.trans (show aMarks [9] (Hp 2 (poL n ws m c m ++ [DT, poLo m c px cx cy .exhausted])) = some ((Hp 2 (poL n ws m c m ++ [DT, poLo m c px cx cy .exhausted])).put 9 (some (.deferred false))) from ?_) ?_
    · simp only [aMarks, hg]
      rw [if_pos (by show 2 ≤ 9; omega)]
    · rw [Hq_put _ _ (by simp)]
      rfl
  rw [← otF_m]
  exact end_own2 (k := 4) (by decide) (rows_no (f := eI) _) rfl rfl
theorem portions_f {n : Int} {ws : List Int} {m : Nat} (hm : ws.length = m) (hm1 : m ≤ 100) (hn : inB n 0 1000000000000000 = true) (hw : ∀ x ∈ ws, 0 ≤ x ∧ x ≤ 600000000) (hs : 1 ≤ pS ws m ∧ pS ws m ≤ 600000000) {h : AH} {s : Value} (h0 : h.sees 0 = true) (r : Rd h s m (rows eI ws)) :
    Fc Try.prog 10 [.int .i64 n, s] h (.tuple #[sO h.next m, .int .i64 0]) (h.new (.cells ⟨rows eI (shF n ws m), 1, true⟩)) :=
  Fc.lift1 (mk := fun ss => [.int .i64 n] ++ ss ++ []) (mkv := fun ss => .tuple ⟨[] ++ ss ++ [.int .i64 0]⟩) (os := [(m, rows eI (shF n ws m), 1)]) (fun c => by
    have := portions_c n ws m c hm hm1 hn hw hs
    rw [Hq_news] at this
    exact this) (MkL.mid rfl rfl) (MkV.tup (MkL.mid rfl rfl)) (rows_no (f := eI) ws) (fun o ho => by simp at ho; subst ho; exact rows_no (f := eI) _) h0 r
theorem portionsE_f {n : Int} {ws : List Int} {m : Nat} (hm : ws.length = m) (hm1 : m ≤ 100) (hn : inB n 0 1000000000000000 = false) {h : AH} {s : Value} (h0 : h.sees 0 = true) (r : Rd h s m (rows eI ws)) :
    Fc Try.prog 10 [.int .i64 n, s] h (.tuple #[.slice none 0 0, .int .i64 3]) h :=
  Fc.lift1 (mk := fun ss => [.int .i64 n] ++ ss ++ []) (mkv := fun _ => .tuple #[.slice none 0 0, .int .i64 3]) (os := []) (fun c => portionsE_c n ws m c hm hm1 hn) (MkL.mid rfl rfl) (MkV.const rfl) (rows_no (f := eI) ws) (fun o ho => by cases ho) h0 r
end Go.Proofs.Ytlhhkmkclmedgaa
