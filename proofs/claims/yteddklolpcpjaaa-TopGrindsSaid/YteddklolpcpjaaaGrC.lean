/-
  Chapter 4 at the top: in, isRange, isSetting, CheckPuller.
-/
import Derived.Test.YteddklolpcpjaaaGrB
set_option linter.unusedSimpArgs false
set_option linter.unusedVariables false
namespace Go.Proofs.Yteddklolpcpjaaa
open Go.RowKit Go.Vm
set_option maxRecDepth 1000000
/-- Lists of numbers: parts. -/
theorem rows_drop1 (xs : List Int) (o : Nat) : (rows eI xs).drop o = rows eI (xs.drop o) := by
  have := rows_drop (f := eI) (xs := xs) (i := o)
  rwa [Nat.mul_one] at this
theorem rows_take1 (xs : List Int) (o : Nat) : (rows eI xs).take o = rows eI (xs.take o) := by
  have h : rows eI xs = rows eI (xs.take o) ++ rows eI (xs.drop o) := by rw [← rows_append, List.take_append_drop]
  by_cases c : o ≤ xs.length
  · rw [h, List.take_append_of_le_length (by rw [rows_len (f := eI), List.length_take]; omega), List.take_of_length_le (by rw [rows_len (f := eI), List.length_take]; omega)]
  · rw [List.take_of_length_le (by rw [rows_len (f := eI)]; omega), List.take_of_length_le (by omega)]
theorem takeP {xs : List Int} {o n : Nat} (h : o + n ≤ xs.length) : takeC (rows eI xs) o n = some (rows eI ((xs.drop o).take n)) := by
  rw [takeC_eq _ _ _ (by rw [rows_len (f := eI)]; omega), rows_drop1, rows_take1]
theorem drop_take2 {xs : List Int} {o : Nat} (h : o + 2 ≤ xs.length) : (xs.drop o).take 2 = [nth xs o, nth xs (o + 1)] := by
  apply List.ext_getElem?
  intro i
  rw [List.getElem?_take]
  match i with
  | 0 => simp [get_nth (show o < xs.length by omega)]
  | 1 => simp [get_nth (show o + 1 < xs.length by omega)]
  | i + 2 => rw [if_neg (by omega)]; rfl
theorem takeP2 {xs : List Int} {o : Nat} (h : o + 2 ≤ xs.length) : takeC (rows eI xs) o 2 = some [I6 (nth xs o), I6 (nth xs (o + 1))] := by
  rw [takeP h, drop_take2 h]; rfl
/-- Numbers as pairs. -/
def prU : List Int → List (Int × Int)
  | a :: b :: r => (a, b) :: prU r
  | _ => []
theorem prU_6 : ∀ l : List Int, l.length = 12 → (prU l).length = 6 ∧ rows eII (prU l) = rows eI l
  | [_, _, _, _, _, _, _, _, _, _, _, _], _ => ⟨rfl, rfl⟩
def outI (m x : Int) : Bool := decide (x < 0) || decide (x > m)
def inI (m : Int) (xs : List Int) : Bool := !xs.any (outI m)
def badG (m : Int) (x : Int × Int) : Bool := [x.1, x.2].any (outI m) || decide (x.1 > x.2)
def rgI (m : Int) (xs : List (Int × Int)) : Bool := !xs.any (badG m)
theorem in_1 {m x : Int} (h : inI m [x] = true) : 0 ≤ x ∧ x ≤ m := by
  simp [inI, outI] at h; omega
theorem in_2 {m x y : Int} (h : inI m [x, y] = true) : (0 ≤ x ∧ x ≤ m) ∧ 0 ≤ y ∧ y ≤ m := by
  simp [inI, outI] at h; omega
theorem rg_1 {m x y : Int} (h : rgI m [(x, y)] = true) : 0 ≤ x ∧ x ≤ y ∧ y ≤ m := by
  simp [rgI, badG, outI] at h; omega
/- boule/pull.in · slots 9 · names 0:most 1:l 2:most 3:l · results [4] -/
def ir62_r0 : IC := .reg [⟨some 2, none, false, .box (.t 0)⟩,
  ⟨some 4, none, false, .mv (.k (.bool false))⟩] (some [1, 2])
def ir62_r1 : IC := .reg [⟨some 5, none, false, .mv (.t 1)⟩,
  ⟨some 6, none, false, .mkf 74 [] [(.t 2)]⟩,
  ⟨some 7, none, false, .call (.f 73) [(.t 5), (.t 6)]⟩,
  ⟨some 8, none, false, .not (.t 7)⟩,
  ⟨some 4, none, false, .mv (.t 8)⟩] (some [4])
def ir62_1 : IC := .seq ir62_r1 .ret
def ir62_2 : IC := .seq ir62_r0 ir62_1
def ir62 : IC := ir62_2
theorem fn62 : FnIs Try.prog 62 ir62 9 [.tmp 4] := ⟨Try.f62, Try.f62.body.getD .skip, Try.func62, by kernel_rfl, by kernel_rfl, by kernel_rfl, by kernel_rfl⟩
/- boule/pull.in$1 · slots 11 · names 0:n 2:n · results [3] -/
def ir74_r0 : IC := .reg [⟨some 3, none, false, .mv (.k (.bool false))⟩] (some [0, 1])
def ir74_r1 : IC := .reg [⟨some 4, none, false, .mv (.t 0)⟩,
  ⟨some 5, none, false, .cmp .lss (.t 4) (.k (.int .i64 0))⟩,
  ⟨some 6, none, false, .mv (.t 5)⟩,
  ⟨some 7, some (6, false), false, .mv (.t 0)⟩,
  ⟨some 8, some (6, false), false, .ldc (.t 1)⟩,
  ⟨some 9, some (6, false), false, .cmp .gtr (.t 7) (.t 8)⟩,
  ⟨some 10, none, false, .pick (.t 6) (.k (.bool true)) (.t 9)⟩,
  ⟨some 3, none, false, .mv (.t 10)⟩] (some [3])
def ir74_1 : IC := .seq ir74_r1 .ret
def ir74_2 : IC := .seq ir74_r0 ir74_1
def ir74 : IC := ir74_2
theorem fn74 : FnIs Try.prog 74 ir74 11 [.tmp 3] := ⟨Try.f74, Try.f74.body.getD .skip, Try.func74, by kernel_rfl, by kernel_rfl, by kernel_rfl, by kernel_rfl⟩
/- boule/pull.isRange · slots 9 · names 0:most 1:l 2:most 3:l · results [4] -/
def ir43_r0 : IC := .reg [⟨some 2, none, false, .box (.t 0)⟩,
  ⟨some 4, none, false, .mv (.k (.bool false))⟩] (some [1, 2])
def ir43_r1 : IC := .reg [⟨some 5, none, false, .mv (.t 1)⟩,
  ⟨some 6, none, false, .mkf 64 [] [(.t 2)]⟩,
  ⟨some 7, none, false, .call (.f 63) [(.t 5), (.t 6)]⟩,
  ⟨some 8, none, false, .not (.t 7)⟩,
  ⟨some 4, none, false, .mv (.t 8)⟩] (some [4])
def ir43_1 : IC := .seq ir43_r1 .ret
def ir43_2 : IC := .seq ir43_r0 ir43_1
def ir43 : IC := ir43_2
theorem fn43 : FnIs Try.prog 43 ir43 9 [.tmp 4] := ⟨Try.f43, Try.f43.body.getD .skip, Try.func43, by kernel_rfl, by kernel_rfl, by kernel_rfl, by kernel_rfl⟩
/- boule/pull.isRange$1 · slots 19 · names 0:r 2:r · results [3] -/
def ir64_r0 : IC := .reg [⟨some 2, none, false, .box (.t 0)⟩,
  ⟨some 3, none, false, .mv (.k (.bool false))⟩] (some [1, 2])
def ir64_r1 : IC := .reg [⟨some 4, none, false, .ldc (.t 1)⟩,
  ⟨some 5, none, false, .fad 0 (.t 2)⟩,
  ⟨some 6, none, false, .ldc (.t 5)⟩,
  ⟨some 7, none, false, .fad 1 (.t 2)⟩,
  ⟨some 8, none, false, .ldc (.t 7)⟩,
  ⟨some 9, none, false, .bsl 1 2 [(.int .i64 0), (.int .i64 0)] [(0, (.t 6)), (1, (.t 8))]⟩,
  ⟨some 10, none, false, .call (.f 62) [(.t 4), (.t 9)]⟩,
  ⟨some 11, none, false, .not (.t 10)⟩,
  ⟨some 12, none, false, .mv (.t 11)⟩,
  ⟨some 13, some (12, false), false, .fad 0 (.t 2)⟩,
  ⟨some 14, some (12, false), false, .ldc (.t 13)⟩,
  ⟨some 15, some (12, false), false, .fad 1 (.t 2)⟩,
  ⟨some 16, some (12, false), false, .ldc (.t 15)⟩,
  ⟨some 17, some (12, false), false, .cmp .gtr (.t 14) (.t 16)⟩,
  ⟨some 18, none, false, .pick (.t 12) (.k (.bool true)) (.t 17)⟩,
  ⟨some 3, none, false, .mv (.t 18)⟩] (some [3])
def ir64_1 : IC := .seq ir64_r1 .ret
def ir64_2 : IC := .seq ir64_r0 ir64_1
def ir64 : IC := ir64_2
theorem fn64 : FnIs Try.prog 64 ir64 19 [.tmp 3] := ⟨Try.f64, Try.f64.body.getD .skip, Try.func64, by kernel_rfl, by kernel_rfl, by kernel_rfl, by kernel_rfl⟩
/- boule/pull.isSetting · slots 16 · names 0:s 1:s · results [2] -/
def ir42_r0 : IC := .reg [⟨some 1, none, false, .box (.t 0)⟩,
  ⟨some 2, none, false, .mv (.k (.bool false))⟩] (some [1])
def ir42_r1 : IC := .reg [⟨some 3, none, false, .fad 1 (.t 1)⟩,
  ⟨some 4, none, false, .ldc (.t 3)⟩,
  ⟨some 5, none, false, .cmp .geq (.t 4) (.k (.int .i64 1))⟩,
  ⟨some 6, none, false, .mv (.t 5)⟩,
  ⟨some 7, some (6, true), false, .fad 1 (.t 1)⟩,
  ⟨some 8, some (6, true), false, .ldc (.t 7)⟩,
  ⟨some 9, some (6, true), false, .cmp .leq (.t 8) (.k (.int .i64 5))⟩,
  ⟨some 10, none, false, .pick (.t 6) (.t 9) (.k (.bool false))⟩,
  ⟨some 11, none, false, .mv (.t 10)⟩,
  ⟨some 12, some (11, true), false, .fad 2 (.t 1)⟩,
  ⟨some 13, some (11, true), false, .gen (.slice 25 (.tmp 12) none none none)⟩,
  ⟨some 14, some (11, true), false, .call (.f 62) [(.k (.int .i64 1000000)), (.t 13)]⟩,
  ⟨some 15, none, false, .pick (.t 11) (.t 14) (.k (.bool false))⟩,
  ⟨some 2, none, false, .mv (.t 15)⟩] (some [2])
def ir42_1 : IC := .seq ir42_r1 .ret
def ir42_2 : IC := .seq ir42_r0 ir42_1
def ir42 : IC := ir42_2
theorem fn42 : FnIs Try.prog 42 ir42 16 [.tmp 2] := ⟨Try.f42, Try.f42.body.getD .skip, Try.func42, by kernel_rfl, by kernel_rfl, by kernel_rfl, by kernel_rfl⟩
/- boule/pull.CheckPuller · slots 65 · names 0:p 1:p 3:_ 4:r · results [2] -/
def ir65_r0 : IC := .reg [⟨some 1, none, false, .box (.t 0)⟩,
  ⟨some 2, none, false, .mv (.k (.int .i64 0))⟩] (some [1])
def ir65_r1 : IC := .reg [⟨some 5, none, false, .fad 0 (.t 1)⟩,
  ⟨some 6, none, false, .lda 110 (.t 5)⟩,
  ⟨some 7, none, false, .mv (.k (.int .i64 0))⟩] (some [1, 6, 7])
def ir65_r2 : IC := .reg [⟨some 8, none, false, .cmp .lss (.t 7) (.k (.int .i64 5))⟩] (some [1, 6, 7, 8])
def ir65_1 : IC := .cond (.t 8) .skip (.exit 0)
def ir65_r3 : IC := .reg [⟨some 9, none, false, .gen (.index 28 (.tmp 6) (.tmp 7))⟩,
  ⟨some 4, none, false, .alloc [(.int .i64 0), (.int .i64 0), (.int .i64 0), (.int .i64 0), (.int .i64 0), (.int .i64 0), (.int .i64 0), (.int .i64 0), (.int .i64 0), (.int .i64 0), (.int .i64 0), (.int .i64 0), (.int .i64 0), (.int .i64 0), (.int .i64 0), (.int .i64 0), (.int .i64 0), (.int .i64 0), (.int .i64 0), (.int .i64 0), (.int .i64 0), (.int .i64 0)]⟩,
  ⟨none, none, false, .st 22 (.t 4) (.t 9)⟩] (some [1, 4, 6, 7])
def ir65_r4 : IC := .reg [⟨some 10, none, false, .fad 0 (.t 4)⟩,
  ⟨some 11, none, false, .gen (.slice 24 (.tmp 10) none none none)⟩,
  ⟨some 12, none, false, .call (.f 43) [(.k (.int .i64 1000000)), (.t 11)]⟩,
  ⟨some 13, none, false, .not (.t 12)⟩,
  ⟨some 14, none, false, .mv (.t 13)⟩,
  ⟨some 15, some (14, false), false, .fad 12 (.t 4)⟩,
  ⟨some 16, some (14, false), false, .gen (.slice 25 (.tmp 15) none none none)⟩,
  ⟨some 17, some (14, false), false, .call (.f 62) [(.k (.int .i64 1000000)), (.t 16)]⟩,
  ⟨some 18, some (14, false), false, .not (.t 17)⟩,
  ⟨some 19, none, false, .pick (.t 14) (.k (.bool true)) (.t 18)⟩,
  ⟨some 20, none, false, .mv (.t 19)⟩,
  ⟨some 21, some (20, false), false, .fad 18 (.t 4)⟩,
  ⟨some 22, some (20, false), false, .lda 2 (.t 21)⟩,
  ⟨some 23, some (20, false), false, .bsl 2 1 [(.int .i64 0), (.int .i64 0)] [(0, (.t 22))]⟩,
  ⟨some 24, some (20, false), false, .call (.f 43) [(.k (.int .i64 100000)), (.t 23)]⟩,
  ⟨some 25, some (20, false), false, .not (.t 24)⟩,
  ⟨some 26, none, false, .pick (.t 20) (.k (.bool true)) (.t 25)⟩,
  ⟨some 27, none, false, .mv (.t 26)⟩,
  ⟨some 28, some (27, false), false, .fad 20 (.t 4)⟩,
  ⟨some 29, some (27, false), false, .lda 2 (.t 28)⟩,
  ⟨some 30, some (27, false), false, .bsl 2 1 [(.int .i64 0), (.int .i64 0)] [(0, (.t 29))]⟩,
  ⟨some 31, some (27, false), false, .call (.f 43) [(.k (.int .i64 10000000000)), (.t 30)]⟩,
  ⟨some 32, some (27, false), false, .not (.t 31)⟩,
  ⟨some 33, none, false, .pick (.t 27) (.k (.bool true)) (.t 32)⟩] (some [1, 6, 7, 33])
def ir65_r5 : IC := .reg [⟨some 2, none, false, .mv (.k (.int .i64 2))⟩] (some [2])
def ir65_2 : IC := .seq ir65_r5 .ret
def ir65_3 : IC := .cond (.t 33) ir65_2 .skip
def ir65_4 : IC := .seq ir65_r4 ir65_3
def ir65_5 : IC := .seq ir65_r3 ir65_4
def ir65_6 : IC := .block 1 ir65_5
def ir65_r6 : IC := .reg [⟨some 34, none, false, .ar .add (.t 7) (.k (.int .i64 1))⟩,
  ⟨some 7, none, false, .mv (.t 34)⟩] (some [1, 6, 7])
def ir65_7 : IC := .seq ir65_6 ir65_r6
def ir65_8 : IC := .seq ir65_1 ir65_7
def ir65_9 : IC := .seq ir65_r2 ir65_8
def ir65_10 : IC := .loop ir65_9
def ir65_11 : IC := .block 0 ir65_10
def ir65_12 : IC := .seq ir65_r1 ir65_11
def ir65_r7 : IC := .reg [⟨some 35, none, false, .fad 110 (.t 1)⟩,
  ⟨some 36, none, false, .ldc (.t 35)⟩,
  ⟨some 37, none, false, .fad 111 (.t 1)⟩,
  ⟨some 38, none, false, .ldc (.t 37)⟩,
  ⟨some 39, none, false, .bsl 1 2 [(.int .i64 0), (.int .i64 0)] [(0, (.t 36)), (1, (.t 38))]⟩,
  ⟨some 40, none, false, .call (.f 62) [(.k (.int .i64 1000000)), (.t 39)]⟩,
  ⟨some 41, none, false, .not (.t 40)⟩,
  ⟨some 42, none, false, .mv (.t 41)⟩,
  ⟨some 43, some (42, false), false, .fad 112 (.t 1)⟩,
  ⟨some 44, some (42, false), false, .lda 2 (.t 43)⟩,
  ⟨some 45, some (42, false), false, .bsl 2 1 [(.int .i64 0), (.int .i64 0)] [(0, (.t 44))]⟩,
  ⟨some 46, some (42, false), false, .call (.f 43) [(.k (.int .i64 1000000)), (.t 45)]⟩,
  ⟨some 47, some (42, false), false, .not (.t 46)⟩,
  ⟨some 48, none, false, .pick (.t 42) (.k (.bool true)) (.t 47)⟩,
  ⟨some 49, none, false, .mv (.t 48)⟩,
  ⟨some 50, some (49, false), false, .fad 114 (.t 1)⟩,
  ⟨some 51, some (49, false), false, .ldc (.t 50)⟩,
  ⟨some 52, some (49, false), false, .bsl 1 1 [(.int .i64 0)] [(0, (.t 51))]⟩,
  ⟨some 53, some (49, false), false, .call (.f 62) [(.k (.int .i64 10000000000)), (.t 52)]⟩,
  ⟨some 54, some (49, false), false, .not (.t 53)⟩,
  ⟨some 55, none, false, .pick (.t 49) (.k (.bool true)) (.t 54)⟩,
  ⟨some 56, none, false, .mv (.t 55)⟩,
  ⟨some 57, some (56, false), false, .fad 115 (.t 1)⟩,
  ⟨some 58, some (56, false), false, .ldc (.t 57)⟩,
  ⟨some 59, some (56, false), false, .fad 116 (.t 1)⟩,
  ⟨some 60, some (56, false), false, .ldc (.t 59)⟩,
  ⟨some 61, some (56, false), false, .bsl 1 2 [(.int .i64 0), (.int .i64 0)] [(0, (.t 58)), (1, (.t 60))]⟩,
  ⟨some 62, some (56, false), false, .call (.f 62) [(.k (.int .i64 100000)), (.t 61)]⟩,
  ⟨some 63, some (56, false), false, .not (.t 62)⟩,
  ⟨some 64, none, false, .pick (.t 56) (.k (.bool true)) (.t 63)⟩] (some [64])
def ir65_r8 : IC := .reg [⟨some 2, none, false, .mv (.k (.int .i64 2))⟩] (some [2])
def ir65_13 : IC := .seq ir65_r8 .ret
def ir65_14 : IC := .cond (.t 64) ir65_13 .skip
def ir65_15 : IC := .seq ir65_r7 ir65_14
def ir65_r9 : IC := .reg [⟨some 2, none, false, .mv (.k (.int .i64 0))⟩] (some [2])
def ir65_16 : IC := .seq ir65_r9 .ret
def ir65_17 : IC := .seq ir65_15 ir65_16
def ir65_18 : IC := .seq ir65_12 ir65_17
def ir65_19 : IC := .seq ir65_r0 ir65_18
def ir65 : IC := ir65_19
theorem fn65 : FnIs Try.prog 65 ir65 65 [.tmp 2] := ⟨Try.f65, Try.f65.body.getD .skip, Try.func65, by kernel_rfl, by kernel_rfl, by kernel_rfl, by kernel_rfl⟩
theorem out_f (m : Int) (cs : List Value) (x : Int) : Fc Try.prog 74 [I6 x, pt 1] (BM [I6 m] cs) (.bool (outI m x)) (BM [I6 m] cs) := by
  refine Fc.intro0 fn74 (by simp) rfl rfl ?_; simp only [argF]
  unfold outI
  refine ITri.seq ?_
  refine ITri.reg pok ?_; simp -implicitDefEqProofs (disch := first | decide | exact of_eq_true (eq_true rfl) | omega | assumption) only [ ↓vcD, vcE, ↓vcG, vcF, evs, evP, evB, intsOf, fillC, Value.cells, pt, Value.oneCell', reduceIte, reduceCtorEq, Nat.reduceEqDiff, Nat.reduceAdd, Nat.reduceMul, Nat.reduceLT, Nat.reduceBEq, Nat.reduceLeDiff, Nat.reduceSub] -- r0
  refine ITri.seq ?_
  by_cases c1 : x < 0
  · rw [decide_eq_true c1]
    refine ITri.reg pok ?_; simp -implicitDefEqProofs (disch := first | decide | exact of_eq_true (eq_true rfl) | omega | assumption) only [c1, decide_true,  ↓vcD, vcE, ↓vcG, vcF, evs, evP, evB, intsOf, fillC, Value.cells, pt, Value.oneCell', reduceIte, reduceCtorEq, Nat.reduceEqDiff, Nat.reduceAdd, Nat.reduceMul, Nat.reduceLT, Nat.reduceBEq, Nat.reduceLeDiff, Nat.reduceSub] -- r1
    refine ITri.ret ?_; exact EndR.plain (by simp) (by rfl) (by rfl) (by rfl)
  rw [decide_eq_false c1]
  refine ITri.reg pok ?_; simp -implicitDefEqProofs (disch := first | decide | exact of_eq_true (eq_true rfl) | omega | assumption) only [c1, decide_false,  ↓vcD, vcE, ↓vcG, vcF, evs, evP, evB, intsOf, fillC, Value.cells, pt, Value.oneCell', reduceIte, reduceCtorEq, Nat.reduceEqDiff, Nat.reduceAdd, Nat.reduceMul, Nat.reduceLT, Nat.reduceBEq, Nat.reduceLeDiff, Nat.reduceSub] -- r1
  refine ITri.ret ?_; exact EndR.plain (by simp) (by rfl) (by rfl) (by rfl)
theorem in_f (m : Int) (xs : List Int) (n : Nat) (hn : xs.length = n) (hb : n ≤ 1000000) {h : AH} {s : Value} (h0 : h.sees 0 = true) (r : Rd h s n (rows eI xs)) :
    Fc Try.prog 62 [I6 m, s] h (.bool (inI m xs)) h := by
  refine Fc.lift1 (mk := fun ss => [I6 m] ++ ss ++ []) (mkv := fun _ => .bool (inI m xs)) (os := []) (fun c => ?_) (MkL.mid rfl rfl) (MkV.const rfl) (rows_no (f := eI) xs) (fun o ho => by cases ho) h0 r
  refine Fc.intro0 (h := H1 (rows eI xs)) fn62 (by simp) rfl rfl ?_; simp only [argF, List.cons_append, List.nil_append]
  refine ITri.seq ?_
  refine ITri.reg pok ?_; simp -implicitDefEqProofs (disch := first | decide | exact of_eq_true (eq_true rfl) | omega | assumption) only [ ↓vcD, vcE, ↓vcG, vcF, evs, evP, evB, intsOf, fillC, Value.cells, pt, Value.oneCell', reduceIte, reduceCtorEq, Nat.reduceEqDiff, Nat.reduceAdd, Nat.reduceMul, Nat.reduceLT, Nat.reduceBEq, Nat.reduceLeDiff, Nat.reduceSub] -- r0
  refine ITri.seq ?_
  refine ITri.reg pok ?_; simp -implicitDefEqProofs (disch := first | decide | exact of_eq_true (eq_true rfl) | omega | assumption) only [ ↓vcD, vcE, ↓vcG, vcF, evs, evP, evB, intsOf, fillC, Value.cells, pt, Value.oneCell', reduceIte, reduceCtorEq, Nat.reduceEqDiff, Nat.reduceAdd, Nat.reduceMul, Nat.reduceLT, Nat.reduceBEq, Nat.reduceLeDiff, Nat.reduceSub] -- r1
  refine ⟨_, _, containsB_f 74 (outI m) [I6 m] rfl xs n (fun x => out_f m _ x) hn hb (sees0 rfl (of_decide_eq_true rfl)) (get_hq rfl rfl) (Rd.hq rfl rfl), ?_⟩
  try simp -implicitDefEqProofs (disch := first | decide | exact of_eq_true (eq_true rfl) | omega | assumption) only [ ↓vcD, vcE, ↓vcG, vcF, evs, evP, evB, intsOf, fillC, Value.cells, pt, Value.oneCell', reduceIte, reduceCtorEq, Nat.reduceEqDiff, Nat.reduceAdd, Nat.reduceMul, Nat.reduceLT, Nat.reduceBEq, Nat.reduceLeDiff, Nat.reduceSub]
  refine ITri.ret ?_; exact EndR.plain (by simp) (by rfl) (by rfl) (by rfl)
theorem badg_f (m : Int) (cs : List Value) (x : Int × Int) : Fc Try.prog 64 [.agg #[I6 x.1, I6 x.2], pt 1] (BM [I6 m] cs) (.bool (badG m x)) (BM [I6 m] cs) := by
  refine Fc.intro0 fn64 (by simp) rfl rfl ?_; simp only [argF]
  obtain ⟨x, y⟩ := x
  show ITri _ _ _ _ _ _ _ _ (EndR _ _ _ _ (.bool ([x, y].any (outI m) || decide (x > y))))
  refine ITri.seq ?_
  refine ITri.reg pok ?_; simp -implicitDefEqProofs (disch := first | decide | exact of_eq_true (eq_true rfl) | omega | assumption) only [ ↓vcD, vcE, ↓vcG, vcF, evs, evP, evB, intsOf, fillC, Value.cells, pt, Value.oneCell', reduceIte, reduceCtorEq, Nat.reduceEqDiff, Nat.reduceAdd, Nat.reduceMul, Nat.reduceLT, Nat.reduceBEq, Nat.reduceLeDiff, Nat.reduceSub] -- r0
  refine ITri.seq ?_
  refine ITri.reg pok ?_; simp -implicitDefEqProofs (disch := first | decide | exact of_eq_true (eq_true rfl) | omega | assumption) only [ ↓vcD, vcE, ↓vcG, vcF, evs, evP, evB, intsOf, fillC, Value.cells, pt, Value.oneCell', reduceIte, reduceCtorEq, Nat.reduceEqDiff, Nat.reduceAdd, Nat.reduceMul, Nat.reduceLT, Nat.reduceBEq, Nat.reduceLeDiff, Nat.reduceSub] -- r1
  refine ⟨_, _, in_f m [x, y] 2 rfl (by omega) (sees0 rfl (of_decide_eq_true rfl)) (Rd.hq rfl rfl), ?_⟩
  unfold inI
  cases g : [x, y].any (outI m) with
  | true =>
    simp -implicitDefEqProofs (disch := first | decide | exact of_eq_true (eq_true rfl) | omega | assumption) only [Bool.not_true, Bool.not_false,  ↓vcD, vcE, ↓vcG, vcF, evs, evP, evB, intsOf, fillC, Value.cells, pt, Value.oneCell', reduceIte, reduceCtorEq, Nat.reduceEqDiff, Nat.reduceAdd, Nat.reduceMul, Nat.reduceLT, Nat.reduceBEq, Nat.reduceLeDiff, Nat.reduceSub]
    refine ITri.ret ?_; exact EndR.plain (by simp) (by rfl) (by rfl) (by rfl)
  | false =>
    simp -implicitDefEqProofs (disch := first | decide | exact of_eq_true (eq_true rfl) | omega | assumption) only [Bool.not_true, Bool.not_false,  ↓vcD, vcE, ↓vcG, vcF, evs, evP, evB, intsOf, fillC, Value.cells, pt, Value.oneCell', reduceIte, reduceCtorEq, Nat.reduceEqDiff, Nat.reduceAdd, Nat.reduceMul, Nat.reduceLT, Nat.reduceBEq, Nat.reduceLeDiff, Nat.reduceSub]
    refine ITri.ret ?_; exact EndR.plain (by simp) (by rfl) (by rfl) (by rfl)
theorem rg_f (m : Int) (xs : List (Int × Int)) (n : Nat) (hn : xs.length = n) (hb : n ≤ 1000000) {h : AH} {s : Value} (h0 : h.sees 0 = true) (r : Rd h s n (rows eII xs)) :
    Fc Try.prog 43 [I6 m, s] h (.bool (rgI m xs)) h := by
  refine Fc.lift1 (mk := fun ss => [I6 m] ++ ss ++ []) (mkv := fun _ => .bool (rgI m xs)) (os := []) (fun c => ?_) (MkL.mid rfl rfl) (MkV.const rfl) (rows_no (f := eII) xs) (fun o ho => by cases ho) h0 r
  refine Fc.intro0 (h := H1 (rows eII xs)) fn43 (by simp) rfl rfl ?_; simp only [argF, List.cons_append, List.nil_append]
  refine ITri.seq ?_
  refine ITri.reg pok ?_; simp -implicitDefEqProofs (disch := first | decide | exact of_eq_true (eq_true rfl) | omega | assumption) only [ ↓vcD, vcE, ↓vcG, vcF, evs, evP, evB, intsOf, fillC, Value.cells, pt, Value.oneCell', reduceIte, reduceCtorEq, Nat.reduceEqDiff, Nat.reduceAdd, Nat.reduceMul, Nat.reduceLT, Nat.reduceBEq, Nat.reduceLeDiff, Nat.reduceSub] -- r0
  refine ITri.seq ?_
  refine ITri.reg pok ?_; simp -implicitDefEqProofs (disch := first | decide | exact of_eq_true (eq_true rfl) | omega | assumption) only [ ↓vcD, vcE, ↓vcG, vcF, evs, evP, evB, intsOf, fillC, Value.cells, pt, Value.oneCell', reduceIte, reduceCtorEq, Nat.reduceEqDiff, Nat.reduceAdd, Nat.reduceMul, Nat.reduceLT, Nat.reduceBEq, Nat.reduceLeDiff, Nat.reduceSub] -- r1
  refine ⟨_, _, containsRB_f 64 (badG m) [I6 m] rfl xs n (fun x => badg_f m _ x) hn hb (sees0 rfl (of_decide_eq_true rfl)) (get_hq rfl rfl) (Rd.hq rfl rfl), ?_⟩
  try simp -implicitDefEqProofs (disch := first | decide | exact of_eq_true (eq_true rfl) | omega | assumption) only [ ↓vcD, vcE, ↓vcG, vcF, evs, evP, evB, intsOf, fillC, Value.cells, pt, Value.oneCell', reduceIte, reduceCtorEq, Nat.reduceEqDiff, Nat.reduceAdd, Nat.reduceMul, Nat.reduceLT, Nat.reduceBEq, Nat.reduceLeDiff, Nat.reduceSub]
  refine ITri.ret ?_; exact EndR.plain (by simp) (by rfl) (by rfl) (by rfl)
theorem u_i6 : Try.prog.underlying 25 = some (.array 6 3) := by kernel_rfl
theorem i_int : Try.prog.info? 3 = some ((Try.prog.info? 3).get rfl) := by kernel_rfl
theorem u_r6 : Try.prog.underlying 24 = some (.array 6 23) := by kernel_rfl
theorem i_rng : Try.prog.info? 23 = some ((Try.prog.info? 23).get rfl) := by kernel_rfl
/-- A setting. -/
structure St where
  (a p v0 v1 v2 v3 v4 v5 : Int)
instance : Inhabited St := ⟨⟨0, 0, 0, 0, 0, 0, 0, 0⟩⟩
def St.vs (x : St) : List Int := [x.v0, x.v1, x.v2, x.v3, x.v4, x.v5]
def eT (x : St) : List Value := [I6 x.a, I6 x.p, I6 x.v0, I6 x.v1, I6 x.v2, I6 x.v3, I6 x.v4, I6 x.v5]
instance flT : FlatE eT 8 := ⟨fun _ => rfl, fun _ => rfl, fun _ => rfl⟩
def setB (x : St) : Bool := decide (x.p ≥ 1) && decide (x.p ≤ 5) && inI 1000000 x.vs
theorem rd_part {wl k n c o sz : Nat} {op : Bool} {hid : List (Nat × Nat)} {L : List (Option AObj)} {cs ds : List Value} (hf : freeOf hid k = true) (hL : (L[k]?).join = some (.cells ⟨cs, sz, op⟩)) (hp : ds <+: cs.drop o) (hd : ds ≠ []) : Rd (Hq wl hid L) (.slice (some ⟨k, o, none⟩) n c) n ds :=
  Rd.some ((free_get hf).trans hL) hp (fun h => absurd h hd)
theorem setting_f (x : St) {h : AH} (h0 : h.sees 0 = true) : Fc Try.prog 42 [.agg ⟨eT x⟩] h (.bool (setB x)) h := by
  refine Fc.lift0 ?_ rfl rfl h0
  refine Fc.intro0 fn42 (by simp) rfl rfl ?_; simp only [argF]
  obtain ⟨a, p, v0, v1, v2, v3, v4, v5⟩ := x
  show ITri _ _ _ _ _ _ _ _ (EndR _ _ _ _ (.bool (decide (p ≥ 1) && decide (p ≤ 5) && inI 1000000 [v0, v1, v2, v3, v4, v5])))
  unfold eT
  simp only
  refine ITri.seq ?_
  refine ITri.reg pok ?_; simp -implicitDefEqProofs (disch := first | decide | exact of_eq_true (eq_true rfl) | omega | assumption) only [ ↓vcD, vcE, ↓vcG, vcF, evs, evP, evB, intsOf, fillC, Value.cells, pt, Value.oneCell', reduceIte, reduceCtorEq, Nat.reduceEqDiff, Nat.reduceAdd, Nat.reduceMul, Nat.reduceLT, Nat.reduceBEq, Nat.reduceLeDiff, Nat.reduceSub] -- r0
  refine ITri.seq ?_
  by_cases c1 : p ≥ 1
  · by_cases c2 : p ≤ 5
    · rw [decide_eq_true c1, decide_eq_true c2]
      refine ITri.reg pok ?_; simp -implicitDefEqProofs (disch := first | decide | exact of_eq_true (eq_true rfl) | omega | assumption) only [c1, c2, decide_true,  ↓vcD, vcE, ↓vcG, vcF, evs, evP, evB, intsOf, fillC, Value.cells, pt, Value.oneCell', reduceIte, reduceCtorEq, Nat.reduceEqDiff, Nat.reduceAdd, Nat.reduceMul, Nat.reduceLT, Nat.reduceBEq, Nat.reduceLeDiff, Nat.reduceSub] -- r1
      refine gen_arr u_i6 i_int rfl (by decide) (by unfold openB; omega) ?_
      try simp -implicitDefEqProofs (disch := first | decide | exact of_eq_true (eq_true rfl) | omega | assumption) only [ ↓vcD, vcE, ↓vcG, vcF, evs, evP, evB, intsOf, fillC, Value.cells, pt, Value.oneCell', reduceIte, reduceCtorEq, Nat.reduceEqDiff, Nat.reduceAdd, Nat.reduceMul, Nat.reduceLT, Nat.reduceBEq, Nat.reduceLeDiff, Nat.reduceSub]
      refine ⟨_, _, in_f 1000000 [v0, v1, v2, v3, v4, v5] 6 rfl (by omega) (sees0 rfl (of_decide_eq_true rfl)) (rd_part rfl rfl ⟨[], by rfl⟩ (by simp [rows, eI])), ?_⟩
      try simp -implicitDefEqProofs (disch := first | decide | exact of_eq_true (eq_true rfl) | omega | assumption) only [ ↓vcD, vcE, ↓vcG, vcF, evs, evP, evB, intsOf, fillC, Value.cells, pt, Value.oneCell', reduceIte, reduceCtorEq, Nat.reduceEqDiff, Nat.reduceAdd, Nat.reduceMul, Nat.reduceLT, Nat.reduceBEq, Nat.reduceLeDiff, Nat.reduceSub]
      refine ITri.ret ?_; exact EndR.plain (by simp) (by rfl) (by rfl) (by rfl)
    · rw [decide_eq_true c1, decide_eq_false c2]
      refine ITri.reg pok ?_; simp -implicitDefEqProofs (disch := first | decide | exact of_eq_true (eq_true rfl) | omega | assumption) only [c1, c2, decide_true, decide_false,  ↓vcD, vcE, ↓vcG, vcF, evs, evP, evB, intsOf, fillC, Value.cells, pt, Value.oneCell', reduceIte, reduceCtorEq, Nat.reduceEqDiff, Nat.reduceAdd, Nat.reduceMul, Nat.reduceLT, Nat.reduceBEq, Nat.reduceLeDiff, Nat.reduceSub] -- r1
      refine ITri.ret ?_; exact EndR.plain (by simp) (by rfl) (by rfl) (by rfl)
  · rw [decide_eq_false c1]
    refine ITri.reg pok ?_; simp -implicitDefEqProofs (disch := first | decide | exact of_eq_true (eq_true rfl) | omega | assumption) only [c1, decide_false,  ↓vcD, vcE, ↓vcG, vcF, evs, evP, evB, intsOf, fillC, Value.cells, pt, Value.oneCell', reduceIte, reduceCtorEq, Nat.reduceEqDiff, Nat.reduceAdd, Nat.reduceMul, Nat.reduceLT, Nat.reduceBEq, Nat.reduceLeDiff, Nat.reduceSub] -- r1
    refine ITri.ret ?_; exact EndR.plain (by simp) (by rfl) (by rfl) (by rfl)
/-- The rules of a puller, by its numbers one after another. -/
def ruAt (ps : List Int) (k : Nat) : List Int := (ps.drop (k * 22)).take 22
def okRu (ru : List Int) : Prop := rgI 1000000 (prU (ru.take 12)) = true ∧ inI 1000000 ((ru.drop 12).take 6) = true ∧ rgI 100000 [(nth ru 18, nth ru 19)] = true ∧ rgI 10000000000 [(nth ru 20, nth ru 21)] = true
structure pulOK (ps : List Int) : Prop where
  ru : ∀ k, k < 5 → okRu (ruAt ps k)
  g : inI 1000000 [nth ps 110, nth ps 111] = true
  l : rgI 1000000 [(nth ps 112, nth ps 113)] = true
  s : inI 10000000000 [nth ps 114] = true
  t : inI 100000 [nth ps 115, nth ps 116] = true
theorem u_ru5 : Try.prog.underlying 28 = some (.array 5 27) := by kernel_rfl
theorem i_ru : Try.prog.info? 27 = some ((Try.prog.info? 27).get rfl) := by kernel_rfl
theorem z_ru : ((Try.prog.info? 27).get rfl).size = 22 := by kernel_rfl
theorem u_ru : Try.prog.underlying 27 = some ((Try.prog.underlying 27).get rfl) := by kernel_rfl
theorem a_ru : isAggD ((Try.prog.underlying 27).get rfl) = true := by kernel_rfl
theorem idx_ru {ps : List Int} (hl : ps.length = 117) {k : Nat} (hk : k < 5) : aIndex Try.prog 28 (.agg ⟨rows eI (ps.take 110)⟩) (.int .i64 (k : Nat)) = some (.agg ⟨rows eI (ruAt ps k)⟩) := by
  obtain ⟨f, hf, hz⟩ : ∃ f, Try.prog.info? 27 = some f ∧ f.size = 22 := ⟨_, i_ru, z_ru⟩
  obtain ⟨d, hd, ha⟩ : ∃ d, Try.prog.underlying 27 = some d ∧ isAggD d = true := ⟨_, u_ru, a_ru⟩
  unfold aIndex
  rw [u_ru5]
  simp only [hf, hz]
  rw [if_pos ⟨by omega, by omega⟩]
  unfold aPart
  rw [hd, hf]
  simp only [ha, hz, if_true]
  congr 2
  rw [← Array.toList_inj, Array.toList_extract]
  show List.extract (rows eI (ps.take 110)) _ _ = rows eI (ruAt ps k)
  rw [List.extract_eq_take_drop, rows_drop1, rows_take1]
  unfold ruAt
  have e1 : Int.toNat (k : Int) = k := rfl
  rw [e1, show k * 22 + 22 - k * 22 = 22 by omega, List.drop_take, List.take_take, show min 22 (110 - k * 22) = 22 by omega]
theorem ru_len {ps : List Int} (hl : ps.length = 117) {k : Nat} (hk : k < 5) : (ruAt ps k).length = 22 := by
  unfold ruAt
  rw [List.length_take, List.length_drop]
  omega
theorem wr22z {l : List Value} (h : l.length = 22) : writeAt [I6 0, I6 0, I6 0, I6 0, I6 0, I6 0, I6 0, I6 0, I6 0, I6 0, I6 0, I6 0, I6 0, I6 0, I6 0, I6 0, I6 0, I6 0, I6 0, I6 0, I6 0, I6 0] 0 l = l := writeAt_0 _ _ (by rw [h]; rfl)
theorem pre_take (xs : List Int) (o n : Nat) : rows eI ((xs.drop o).take n) <+: (rows eI xs).drop o := by
  rw [rows_drop1, ← rows_take1]
  exact List.take_prefix _ _
set_option maxHeartbeats 1000000 in
theorem puller_f {ps : List Int} {e : Int} (hl : ps.length = 117) (he : (pulOK ps ∧ e = 0) ∨ (¬ pulOK ps ∧ e = 2)) {h : AH} (h0 : h.sees 0 = true) : Fc Try.prog 65 [.agg ⟨rows eI ps⟩] h (.int .i64 e) h := by
  refine Fc.lift0 ?_ (by show (noAddrL (rows eI ps) && true) = true; rw [rows_no (f := eI)]; rfl) rfl h0
  have bad : (pulOK ps → False) → e = 2 := fun hf => he.elim (fun h => (hf h.1).elim) (·.2)
  refine Fc.intro0 fn65 (by simp) rfl rfl ?_; simp only [argF]
  have g110 := getI (xs := ps) (i := 110) (by omega)
  have g111 := getI (xs := ps) (i := 111) (by omega)
  have g112 := takeP2 (xs := ps) (o := 112) (by omega)
  have g114 := getI (xs := ps) (i := 114) (by omega)
  have g115 := getI (xs := ps) (i := 115) (by omega)
  have g116 := getI (xs := ps) (i := 116) (by omega)
  have t110 := takeP (xs := ps) (o := 0) (n := 110) (by omega)
  rw [List.drop_zero] at t110
  have hx := fun k hk => @idx_ru ps hl k hk
  have hlr := fun k hk => @ru_len ps hl k hk
  have hall1 : (rows eI ps).all Value.oneCell' = true := rows_one' (f := eI) ps
  refine ITri.seq ?_
  refine ITri.reg pok ?_; simp -implicitDefEqProofs (disch := first | decide | exact of_eq_true (eq_true rfl) | omega | assumption) only [hall1,  ↓vcD, vcE, ↓vcG, vcF, evs, evP, evB, intsOf, fillC, Value.cells, pt, Value.oneCell', reduceIte, reduceCtorEq, Nat.reduceEqDiff, Nat.reduceAdd, Nat.reduceMul, Nat.reduceLT, Nat.reduceBEq, Nat.reduceLeDiff, Nat.reduceSub] -- r0
  refine ITri.seq ?_
  refine ITri.seq ?_
  refine ITri.reg pok ?_; simp -implicitDefEqProofs (disch := first | decide | exact of_eq_true (eq_true rfl) | omega | assumption) only [t110,  ↓vcD, vcE, ↓vcG, vcF, evs, evP, evB, intsOf, fillC, Value.cells, pt, Value.oneCell', reduceIte, reduceCtorEq, Nat.reduceEqDiff, Nat.reduceAdd, Nat.reduceMul, Nat.reduceLT, Nat.reduceBEq, Nat.reduceLeDiff, Nat.reduceSub] -- r1
  refine ITri.block ?_ -- 0
  refine ITri.loop (fun k : Nat => [(1, pt 1), (6, .agg ⟨rows eI (ps.take 110)⟩), (7, .int .i64 k)]) (fun _ => []) (fun k => Hp 1 [none, some (.cells ⟨rows eI ps, 1, false⟩)]) (fun k => k ≤ 5 ∧ ∀ j, j < k → okRu (ruAt ps j)) (fun k => 5 - k) 0 ⟨Nat.zero_le _, fun j hj => by omega⟩ (Wk.sub ⟨rfl, rfl, rfl, trivial⟩) fun k hk => ?_
  obtain ⟨hk, hj⟩ := hk
  refine ITri.seq ?_
  refine ITri.reg pok ?_; simp -implicitDefEqProofs (disch := first | decide | exact of_eq_true (eq_true rfl) | omega | assumption) only [ ↓vcD, vcE, ↓vcG, vcF, evs, evP, evB, intsOf, fillC, Value.cells, pt, Value.oneCell', reduceIte, reduceCtorEq, Nat.reduceEqDiff, Nat.reduceAdd, Nat.reduceMul, Nat.reduceLT, Nat.reduceBEq, Nat.reduceLeDiff, Nat.reduceSub] -- r2
  refine ITri.seq ?_
  refine ITri.condD (by rfl) (fun h2 => ?_) (fun h2 => ?_) -- %8
  · have hk5 : k < 5 := by omega
    have hxk := hx k hk5
    have hlk := hlr k hk5
    have hrl : (rows eI (ruAt ps k)).length = 22 := by rw [rows_len (f := eI), hlk]
    have hw := wr22z hrl
    have bad' : ¬ okRu (ruAt ps k) → e = 2 := fun hn => bad fun h => hn (h.ru k hk5)
    have hnext : okRu (ruAt ps k) → ∀ j, j < k + 1 → okRu (ruAt ps j) := fun h j hjk => by
      by_cases c : j = k
      · rw [c]; exact h
      · exact hj j (by omega)
    generalize ruAt ps k = ru at *
    have hk1 : (k : Int) + 1 = ((k + 1 : Nat) : Int) := by omega
    have p6 := prU_6 (ru.take 12) (by rw [List.length_take]; omega)
    have q1 := takeP2 (xs := ru) (o := 18) (by omega)
    have q2 := takeP2 (xs := ru) (o := 20) (by omega)
    have hru1 : (rows eI ru).all Value.oneCell' = true := rows_one' (f := eI) ru
    refine ITri.skip ?_; simp only [SeqQ_normal, BlkQ_normal]
    refine ITri.seq ?_
    refine ITri.block ?_ -- 1
    refine ITri.seq ?_
    refine ITri.reg pok ?_; simp -implicitDefEqProofs (disch := first | decide | exact of_eq_true (eq_true rfl) | omega | assumption) only [ ↓vcD, vcE, ↓vcG, vcF, evs, evP, evB, intsOf, fillC, Value.cells, pt, Value.oneCell', reduceIte, reduceCtorEq, Nat.reduceEqDiff, Nat.reduceAdd, Nat.reduceMul, Nat.reduceLT, Nat.reduceBEq, Nat.reduceLeDiff, Nat.reduceSub] -- r3
    refine gen_idx rfl rfl hxk ?_
    simp -implicitDefEqProofs (disch := first | decide | exact of_eq_true (eq_true rfl) | omega | assumption) only [hw, hrl,  ↓vcD, vcE, ↓vcG, vcF, evs, evP, evB, intsOf, fillC, Value.cells, pt, Value.oneCell', reduceIte, reduceCtorEq, Nat.reduceEqDiff, Nat.reduceAdd, Nat.reduceMul, Nat.reduceLT, Nat.reduceBEq, Nat.reduceLeDiff, Nat.reduceSub]
    refine ITri.seq ?_
    refine ITri.reg pok ?_; simp -implicitDefEqProofs (disch := first | decide | exact of_eq_true (eq_true rfl) | omega | assumption) only [ ↓vcD, vcE, ↓vcG, vcF, evs, evP, evB, intsOf, fillC, Value.cells, pt, Value.oneCell', reduceIte, reduceCtorEq, Nat.reduceEqDiff, Nat.reduceAdd, Nat.reduceMul, Nat.reduceLT, Nat.reduceBEq, Nat.reduceLeDiff, Nat.reduceSub] -- r4
    refine gen_arr u_r6 i_rng rfl (by decide) (by unfold openB; omega) ?_
    try simp -implicitDefEqProofs (disch := first | decide | exact of_eq_true (eq_true rfl) | omega | assumption) only [ ↓vcD, vcE, ↓vcG, vcF, evs, evP, evB, intsOf, fillC, Value.cells, pt, Value.oneCell', reduceIte, reduceCtorEq, Nat.reduceEqDiff, Nat.reduceAdd, Nat.reduceMul, Nat.reduceLT, Nat.reduceBEq, Nat.reduceLeDiff, Nat.reduceSub]
    refine ⟨_, _, rg_f 1000000 (prU (ru.take 12)) 6 p6.1 (by omega) (sees0 rfl (of_decide_eq_true rfl)) (rd_part rfl rfl (by rw [p6.2]; have := pre_take ru 0 12; rwa [List.drop_zero] at this) (by intro h; have := congrArg List.length h; rw [rows_len (f := eII), p6.1] at this; cases this)), ?_⟩
    cases b1 : rgI 1000000 (prU (ru.take 12)) with
    | false =>
      obtain rfl := bad' fun h => by rw [h.1] at b1; cases b1
      simp -implicitDefEqProofs (disch := first | decide | exact of_eq_true (eq_true rfl) | omega | assumption) only [Bool.not_false,  ↓vcD, vcE, ↓vcG, vcF, evs, evP, evB, intsOf, fillC, Value.cells, pt, Value.oneCell', reduceIte, reduceCtorEq, Nat.reduceEqDiff, Nat.reduceAdd, Nat.reduceMul, Nat.reduceLT, Nat.reduceBEq, Nat.reduceLeDiff, Nat.reduceSub]
      refine ITri.cond (v := true) rfl (fun _ => ?_) (fun h => by cases h)
      refine ITri.seq ?_
      refine ITri.reg pok ?_; simp -implicitDefEqProofs (disch := first | decide | exact of_eq_true (eq_true rfl) | omega | assumption) only [ ↓vcD, vcE, ↓vcG, vcF, evs, evP, evB, intsOf, fillC, Value.cells, pt, Value.oneCell', reduceIte, reduceCtorEq, Nat.reduceEqDiff, Nat.reduceAdd, Nat.reduceMul, Nat.reduceLT, Nat.reduceBEq, Nat.reduceLeDiff, Nat.reduceSub] -- r5
      refine ITri.ret ?_; exact EndR.plain (by simp) (by rfl) (by rfl) (by rfl)
    | true =>
      simp -implicitDefEqProofs (disch := first | decide | exact of_eq_true (eq_true rfl) | omega | assumption) only [Bool.not_true,  ↓vcD, vcE, ↓vcG, vcF, evs, evP, evB, intsOf, fillC, Value.cells, pt, Value.oneCell', reduceIte, reduceCtorEq, Nat.reduceEqDiff, Nat.reduceAdd, Nat.reduceMul, Nat.reduceLT, Nat.reduceBEq, Nat.reduceLeDiff, Nat.reduceSub]
      refine gen_arr u_i6 i_int rfl (by decide) (by unfold openB; omega) ?_
      try simp -implicitDefEqProofs (disch := first | decide | exact of_eq_true (eq_true rfl) | omega | assumption) only [ ↓vcD, vcE, ↓vcG, vcF, evs, evP, evB, intsOf, fillC, Value.cells, pt, Value.oneCell', reduceIte, reduceCtorEq, Nat.reduceEqDiff, Nat.reduceAdd, Nat.reduceMul, Nat.reduceLT, Nat.reduceBEq, Nat.reduceLeDiff, Nat.reduceSub]
      refine ⟨_, _, in_f 1000000 ((ru.drop 12).take 6) 6 (by rw [List.length_take, List.length_drop]; omega) (by omega) (sees0 rfl (of_decide_eq_true rfl)) (rd_part rfl rfl (pre_take ru 12 6) (by intro h; have := congrArg List.length h; rw [rows_len (f := eI), List.length_take, List.length_drop, hlk] at this; cases this)), ?_⟩
      cases b2 : inI 1000000 ((ru.drop 12).take 6) with
      | false =>
        obtain rfl := bad' fun h => by rw [h.2.1] at b2; cases b2
        simp -implicitDefEqProofs (disch := first | decide | exact of_eq_true (eq_true rfl) | omega | assumption) only [Bool.not_false,  ↓vcD, vcE, ↓vcG, vcF, evs, evP, evB, intsOf, fillC, Value.cells, pt, Value.oneCell', reduceIte, reduceCtorEq, Nat.reduceEqDiff, Nat.reduceAdd, Nat.reduceMul, Nat.reduceLT, Nat.reduceBEq, Nat.reduceLeDiff, Nat.reduceSub]
        refine ITri.cond (v := true) rfl (fun _ => ?_) (fun h => by cases h)
        refine ITri.seq ?_
        refine ITri.reg pok ?_; simp -implicitDefEqProofs (disch := first | decide | exact of_eq_true (eq_true rfl) | omega | assumption) only [ ↓vcD, vcE, ↓vcG, vcF, evs, evP, evB, intsOf, fillC, Value.cells, pt, Value.oneCell', reduceIte, reduceCtorEq, Nat.reduceEqDiff, Nat.reduceAdd, Nat.reduceMul, Nat.reduceLT, Nat.reduceBEq, Nat.reduceLeDiff, Nat.reduceSub] -- r5
        refine ITri.ret ?_; exact EndR.plain (by simp) (by rfl) (by rfl) (by rfl)
      | true =>
        simp -implicitDefEqProofs (disch := first | decide | exact of_eq_true (eq_true rfl) | omega | assumption) only [Bool.not_true, q1,  ↓vcD, vcE, ↓vcG, vcF, evs, evP, evB, intsOf, fillC, Value.cells, pt, Value.oneCell', reduceIte, reduceCtorEq, Nat.reduceEqDiff, Nat.reduceAdd, Nat.reduceMul, Nat.reduceLT, Nat.reduceBEq, Nat.reduceLeDiff, Nat.reduceSub]
        refine ⟨_, _, rg_f 100000 [(nth ru 18, nth ru 19)] 1 rfl (by omega) (sees0 rfl (of_decide_eq_true rfl)) (Rd.hq rfl rfl), ?_⟩
        cases b3 : rgI 100000 [(nth ru 18, nth ru 19)] with
        | false =>
          obtain rfl := bad' fun h => by rw [h.2.2.1] at b3; cases b3
          simp -implicitDefEqProofs (disch := first | decide | exact of_eq_true (eq_true rfl) | omega | assumption) only [Bool.not_false,  ↓vcD, vcE, ↓vcG, vcF, evs, evP, evB, intsOf, fillC, Value.cells, pt, Value.oneCell', reduceIte, reduceCtorEq, Nat.reduceEqDiff, Nat.reduceAdd, Nat.reduceMul, Nat.reduceLT, Nat.reduceBEq, Nat.reduceLeDiff, Nat.reduceSub]
          refine ITri.cond (v := true) rfl (fun _ => ?_) (fun h => by cases h)
          refine ITri.seq ?_
          refine ITri.reg pok ?_; simp -implicitDefEqProofs (disch := first | decide | exact of_eq_true (eq_true rfl) | omega | assumption) only [ ↓vcD, vcE, ↓vcG, vcF, evs, evP, evB, intsOf, fillC, Value.cells, pt, Value.oneCell', reduceIte, reduceCtorEq, Nat.reduceEqDiff, Nat.reduceAdd, Nat.reduceMul, Nat.reduceLT, Nat.reduceBEq, Nat.reduceLeDiff, Nat.reduceSub] -- r5
          refine ITri.ret ?_; exact EndR.plain (by simp) (by rfl) (by rfl) (by rfl)
        | true =>
          simp -implicitDefEqProofs (disch := first | decide | exact of_eq_true (eq_true rfl) | omega | assumption) only [Bool.not_true, q2,  ↓vcD, vcE, ↓vcG, vcF, evs, evP, evB, intsOf, fillC, Value.cells, pt, Value.oneCell', reduceIte, reduceCtorEq, Nat.reduceEqDiff, Nat.reduceAdd, Nat.reduceMul, Nat.reduceLT, Nat.reduceBEq, Nat.reduceLeDiff, Nat.reduceSub]
          refine ⟨_, _, rg_f 10000000000 [(nth ru 20, nth ru 21)] 1 rfl (by omega) (sees0 rfl (of_decide_eq_true rfl)) (Rd.hq rfl rfl), ?_⟩
          cases b4 : rgI 10000000000 [(nth ru 20, nth ru 21)] with
          | false =>
            obtain rfl := bad' fun h => by rw [h.2.2.2] at b4; cases b4
            simp -implicitDefEqProofs (disch := first | decide | exact of_eq_true (eq_true rfl) | omega | assumption) only [Bool.not_false,  ↓vcD, vcE, ↓vcG, vcF, evs, evP, evB, intsOf, fillC, Value.cells, pt, Value.oneCell', reduceIte, reduceCtorEq, Nat.reduceEqDiff, Nat.reduceAdd, Nat.reduceMul, Nat.reduceLT, Nat.reduceBEq, Nat.reduceLeDiff, Nat.reduceSub]
            refine ITri.cond (v := true) rfl (fun _ => ?_) (fun h => by cases h)
            refine ITri.seq ?_
            refine ITri.reg pok ?_; simp -implicitDefEqProofs (disch := first | decide | exact of_eq_true (eq_true rfl) | omega | assumption) only [ ↓vcD, vcE, ↓vcG, vcF, evs, evP, evB, intsOf, fillC, Value.cells, pt, Value.oneCell', reduceIte, reduceCtorEq, Nat.reduceEqDiff, Nat.reduceAdd, Nat.reduceMul, Nat.reduceLT, Nat.reduceBEq, Nat.reduceLeDiff, Nat.reduceSub] -- r5
            refine ITri.ret ?_; exact EndR.plain (by simp) (by rfl) (by rfl) (by rfl)
          | true =>
            simp -implicitDefEqProofs (disch := first | decide | exact of_eq_true (eq_true rfl) | omega | assumption) only [Bool.not_true,  ↓vcD, vcE, ↓vcG, vcF, evs, evP, evB, intsOf, fillC, Value.cells, pt, Value.oneCell', reduceIte, reduceCtorEq, Nat.reduceEqDiff, Nat.reduceAdd, Nat.reduceMul, Nat.reduceLT, Nat.reduceBEq, Nat.reduceLeDiff, Nat.reduceSub]
            refine ITri.cond (v := false) rfl (fun h => by cases h) (fun _ => ?_); refine ITri.skip ?_; simp only [SeqQ_normal, BlkQ_normal]
            refine ITri.reg pok ?_; simp -implicitDefEqProofs (disch := first | decide | exact of_eq_true (eq_true rfl) | omega | assumption) only [hk1,  ↓vcD, vcE, ↓vcG, vcF, evs, evP, evB, intsOf, fillC, Value.cells, pt, Value.oneCell', reduceIte, reduceCtorEq, Nat.reduceEqDiff, Nat.reduceAdd, Nat.reduceMul, Nat.reduceLT, Nat.reduceBEq, Nat.reduceLeDiff, Nat.reduceSub] -- r6
            have m1 : ∀ σ ξ, mvL σ ξ (rows eI (ps.take 110)) = rows eI (ps.take 110) := fun σ ξ => mvL_rows σ ξ
            have m2 : ∀ ξ B, okML ξ B (rows eI (ps.take 110)) = True := fun ξ B => eq_true (okML_rows ξ B)
            exact LoopQ.next (k + 1) ⟨by omega, hnext ⟨b1, b2, b3, b4⟩⟩ (by omega) (Wk.gc [0, 1] [] (of_decide_eq_true rfl) (of_decide_eq_true rfl) rfl rfl (of_decide_eq_true rfl) rfl rfl (by repeat (first | exact xiOK_nil | refine xiOK_cons (by first | trivial | exact roomOK _ (by decide)) ?_)) rfl (by simp -implicitDefEqProofs (disch := first | decide | exact of_eq_true (eq_true rfl) | omega | assumption) only [m1, m2, objOK, sgL, xiL, objAt, nilO, OM, mvL, mv, mvS, okS, okP, mvL_rows, okML, okM, okML_rows, List.getElem?_cons_zero, Option.getD_some, implies_true, imp_self, ne_eq, and_self, true_or, or_true, Nat.zero_mul, Nat.sub_self, openB_self, ↓vcD, vcE, ↓vcG, vcF, evs, evP, evB, intsOf, fillC, Value.cells, pt, Value.oneCell', reduceIte, reduceCtorEq, Nat.reduceEqDiff, Nat.reduceAdd, Nat.reduceMul, Nat.reduceLT, Nat.reduceBEq, Nat.reduceLeDiff, Nat.reduceSub]) (by simp -implicitDefEqProofs (disch := first | decide | exact of_eq_true (eq_true rfl) | omega | assumption) only [m1, m2, valOK, sgL, xiL, mv, mvA, mvL, mvS, okS, okP, okM, okMA, okML, Option.getD_some, implies_true, and_self, true_or, or_true, Int.natCast_add, Int.cast_ofNat_Int, Nat.zero_mul, Nat.sub_self, openB_self, ↓vcD, vcE, ↓vcG, vcF, evs, evP, evB, intsOf, fillC, Value.cells, pt, Value.oneCell', reduceIte, reduceCtorEq, Nat.reduceEqDiff, Nat.reduceAdd, Nat.reduceMul, Nat.reduceLT, Nat.reduceBEq, Nat.reduceLeDiff, Nat.reduceSub]) (fun _ h => by cases h) ⟨rfl, fun _ h => by cases h⟩)
  refine ITri.exit ?_; try simp -implicitDefEqProofs (disch := first | decide | exact of_eq_true (eq_true rfl) | omega | assumption) only [ ↓vcD, vcE, ↓vcG, vcF, evs, evP, evB, intsOf, fillC, Value.cells, pt, Value.oneCell', reduceIte, reduceCtorEq, Nat.reduceEqDiff, Nat.reduceAdd, Nat.reduceMul, Nat.reduceLT, Nat.reduceBEq, Nat.reduceLeDiff, Nat.reduceSub] -- exit 0
  obtain rfl : k = 5 := by omega
  refine ITri.seq ?_
  refine ITri.seq ?_
  refine ITri.reg pok ?_; simp -implicitDefEqProofs (disch := first | decide | exact of_eq_true (eq_true rfl) | omega | assumption) only [g110, g111,  ↓vcD, vcE, ↓vcG, vcF, evs, evP, evB, intsOf, fillC, Value.cells, pt, Value.oneCell', reduceIte, reduceCtorEq, Nat.reduceEqDiff, Nat.reduceAdd, Nat.reduceMul, Nat.reduceLT, Nat.reduceBEq, Nat.reduceLeDiff, Nat.reduceSub] -- r7
  refine ⟨_, _, in_f 1000000 [nth ps 110, nth ps 111] 2 rfl (by omega) (sees0 rfl (of_decide_eq_true rfl)) (Rd.hq rfl rfl), ?_⟩
  cases b1 : inI 1000000 [nth ps 110, nth ps 111] with
  | false =>
    obtain rfl := bad fun h => by rw [h.g] at b1; cases b1
    simp -implicitDefEqProofs (disch := first | decide | exact of_eq_true (eq_true rfl) | omega | assumption) only [Bool.not_false,  ↓vcD, vcE, ↓vcG, vcF, evs, evP, evB, intsOf, fillC, Value.cells, pt, Value.oneCell', reduceIte, reduceCtorEq, Nat.reduceEqDiff, Nat.reduceAdd, Nat.reduceMul, Nat.reduceLT, Nat.reduceBEq, Nat.reduceLeDiff, Nat.reduceSub]
    refine ITri.cond (v := true) rfl (fun _ => ?_) (fun h => by cases h)
    refine ITri.seq ?_
    refine ITri.reg pok ?_; simp -implicitDefEqProofs (disch := first | decide | exact of_eq_true (eq_true rfl) | omega | assumption) only [ ↓vcD, vcE, ↓vcG, vcF, evs, evP, evB, intsOf, fillC, Value.cells, pt, Value.oneCell', reduceIte, reduceCtorEq, Nat.reduceEqDiff, Nat.reduceAdd, Nat.reduceMul, Nat.reduceLT, Nat.reduceBEq, Nat.reduceLeDiff, Nat.reduceSub] -- r8
    refine ITri.ret ?_; exact EndR.plain (by simp) (by rfl) (by rfl) (by rfl)
  | true =>
    simp -implicitDefEqProofs (disch := first | decide | exact of_eq_true (eq_true rfl) | omega | assumption) only [Bool.not_true, g112,  ↓vcD, vcE, ↓vcG, vcF, evs, evP, evB, intsOf, fillC, Value.cells, pt, Value.oneCell', reduceIte, reduceCtorEq, Nat.reduceEqDiff, Nat.reduceAdd, Nat.reduceMul, Nat.reduceLT, Nat.reduceBEq, Nat.reduceLeDiff, Nat.reduceSub]
    refine ⟨_, _, rg_f 1000000 [(nth ps 112, nth ps 113)] 1 rfl (by omega) (sees0 rfl (of_decide_eq_true rfl)) (Rd.hq rfl rfl), ?_⟩
    cases b2 : rgI 1000000 [(nth ps 112, nth ps 113)] with
    | false =>
      obtain rfl := bad fun h => by rw [h.l] at b2; cases b2
      simp -implicitDefEqProofs (disch := first | decide | exact of_eq_true (eq_true rfl) | omega | assumption) only [Bool.not_false,  ↓vcD, vcE, ↓vcG, vcF, evs, evP, evB, intsOf, fillC, Value.cells, pt, Value.oneCell', reduceIte, reduceCtorEq, Nat.reduceEqDiff, Nat.reduceAdd, Nat.reduceMul, Nat.reduceLT, Nat.reduceBEq, Nat.reduceLeDiff, Nat.reduceSub]
      refine ITri.cond (v := true) rfl (fun _ => ?_) (fun h => by cases h)
      refine ITri.seq ?_
      refine ITri.reg pok ?_; simp -implicitDefEqProofs (disch := first | decide | exact of_eq_true (eq_true rfl) | omega | assumption) only [ ↓vcD, vcE, ↓vcG, vcF, evs, evP, evB, intsOf, fillC, Value.cells, pt, Value.oneCell', reduceIte, reduceCtorEq, Nat.reduceEqDiff, Nat.reduceAdd, Nat.reduceMul, Nat.reduceLT, Nat.reduceBEq, Nat.reduceLeDiff, Nat.reduceSub] -- r8
      refine ITri.ret ?_; exact EndR.plain (by simp) (by rfl) (by rfl) (by rfl)
    | true =>
      simp -implicitDefEqProofs (disch := first | decide | exact of_eq_true (eq_true rfl) | omega | assumption) only [Bool.not_true, g114,  ↓vcD, vcE, ↓vcG, vcF, evs, evP, evB, intsOf, fillC, Value.cells, pt, Value.oneCell', reduceIte, reduceCtorEq, Nat.reduceEqDiff, Nat.reduceAdd, Nat.reduceMul, Nat.reduceLT, Nat.reduceBEq, Nat.reduceLeDiff, Nat.reduceSub]
      refine ⟨_, _, in_f 10000000000 [nth ps 114] 1 rfl (by omega) (sees0 rfl (of_decide_eq_true rfl)) (Rd.hq rfl rfl), ?_⟩
      cases b3 : inI 10000000000 [nth ps 114] with
      | false =>
        obtain rfl := bad fun h => by rw [h.s] at b3; cases b3
        simp -implicitDefEqProofs (disch := first | decide | exact of_eq_true (eq_true rfl) | omega | assumption) only [Bool.not_false,  ↓vcD, vcE, ↓vcG, vcF, evs, evP, evB, intsOf, fillC, Value.cells, pt, Value.oneCell', reduceIte, reduceCtorEq, Nat.reduceEqDiff, Nat.reduceAdd, Nat.reduceMul, Nat.reduceLT, Nat.reduceBEq, Nat.reduceLeDiff, Nat.reduceSub]
        refine ITri.cond (v := true) rfl (fun _ => ?_) (fun h => by cases h)
        refine ITri.seq ?_
        refine ITri.reg pok ?_; simp -implicitDefEqProofs (disch := first | decide | exact of_eq_true (eq_true rfl) | omega | assumption) only [ ↓vcD, vcE, ↓vcG, vcF, evs, evP, evB, intsOf, fillC, Value.cells, pt, Value.oneCell', reduceIte, reduceCtorEq, Nat.reduceEqDiff, Nat.reduceAdd, Nat.reduceMul, Nat.reduceLT, Nat.reduceBEq, Nat.reduceLeDiff, Nat.reduceSub] -- r8
        refine ITri.ret ?_; exact EndR.plain (by simp) (by rfl) (by rfl) (by rfl)
      | true =>
        simp -implicitDefEqProofs (disch := first | decide | exact of_eq_true (eq_true rfl) | omega | assumption) only [Bool.not_true, g115, g116,  ↓vcD, vcE, ↓vcG, vcF, evs, evP, evB, intsOf, fillC, Value.cells, pt, Value.oneCell', reduceIte, reduceCtorEq, Nat.reduceEqDiff, Nat.reduceAdd, Nat.reduceMul, Nat.reduceLT, Nat.reduceBEq, Nat.reduceLeDiff, Nat.reduceSub]
        refine ⟨_, _, in_f 100000 [nth ps 115, nth ps 116] 2 rfl (by omega) (sees0 rfl (of_decide_eq_true rfl)) (Rd.hq rfl rfl), ?_⟩
        cases b4 : inI 100000 [nth ps 115, nth ps 116] with
        | false =>
          obtain rfl := bad fun h => by rw [h.t] at b4; cases b4
          simp -implicitDefEqProofs (disch := first | decide | exact of_eq_true (eq_true rfl) | omega | assumption) only [Bool.not_false,  ↓vcD, vcE, ↓vcG, vcF, evs, evP, evB, intsOf, fillC, Value.cells, pt, Value.oneCell', reduceIte, reduceCtorEq, Nat.reduceEqDiff, Nat.reduceAdd, Nat.reduceMul, Nat.reduceLT, Nat.reduceBEq, Nat.reduceLeDiff, Nat.reduceSub]
          refine ITri.cond (v := true) rfl (fun _ => ?_) (fun h => by cases h)
          refine ITri.seq ?_
          refine ITri.reg pok ?_; simp -implicitDefEqProofs (disch := first | decide | exact of_eq_true (eq_true rfl) | omega | assumption) only [ ↓vcD, vcE, ↓vcG, vcF, evs, evP, evB, intsOf, fillC, Value.cells, pt, Value.oneCell', reduceIte, reduceCtorEq, Nat.reduceEqDiff, Nat.reduceAdd, Nat.reduceMul, Nat.reduceLT, Nat.reduceBEq, Nat.reduceLeDiff, Nat.reduceSub] -- r8
          refine ITri.ret ?_; exact EndR.plain (by simp) (by rfl) (by rfl) (by rfl)
        | true =>
          obtain rfl : e = 0 := he.elim (·.2) fun h => absurd ⟨fun j hj5 => hj j hj5, b1, b2, b3, b4⟩ h.1
          simp -implicitDefEqProofs (disch := first | decide | exact of_eq_true (eq_true rfl) | omega | assumption) only [Bool.not_true,  ↓vcD, vcE, ↓vcG, vcF, evs, evP, evB, intsOf, fillC, Value.cells, pt, Value.oneCell', reduceIte, reduceCtorEq, Nat.reduceEqDiff, Nat.reduceAdd, Nat.reduceMul, Nat.reduceLT, Nat.reduceBEq, Nat.reduceLeDiff, Nat.reduceSub]
          refine ITri.cond (v := false) rfl (fun h => by cases h) (fun _ => ?_); refine ITri.skip ?_; simp only [SeqQ_normal, BlkQ_normal]
          refine ITri.seq ?_
          refine ITri.reg pok ?_; simp -implicitDefEqProofs (disch := first | decide | exact of_eq_true (eq_true rfl) | omega | assumption) only [ ↓vcD, vcE, ↓vcG, vcF, evs, evP, evB, intsOf, fillC, Value.cells, pt, Value.oneCell', reduceIte, reduceCtorEq, Nat.reduceEqDiff, Nat.reduceAdd, Nat.reduceMul, Nat.reduceLT, Nat.reduceBEq, Nat.reduceLeDiff, Nat.reduceSub] -- r9
          refine ITri.ret ?_; exact EndR.plain (by simp) (by rfl) (by rfl) (by rfl)
end Go.Proofs.Yteddklolpcpjaaa
