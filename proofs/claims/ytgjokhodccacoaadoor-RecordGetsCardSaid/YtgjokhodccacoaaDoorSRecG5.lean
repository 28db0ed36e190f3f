/-
  Chapter 6: the law RecordGets, by names.
-/
import Derived.Test.YtgjokhodccacoaaDoorSRecG4
set_option linter.unusedSimpArgs false
set_option linter.unusedVariables false
namespace Go.Vm
open Go Go.RowKit
section
variable {P : Program} {w : Bool} {t el : TypeId} {f : TypeInfo} {s k n c sz : Nat} {l : Fr} {h : AH} {K : Value → AH → Prop} {op : Bool} {xs : List Int}
theorem bytesL_rows : ∀ ys : List Int, bytesL (rows (fun x : Int => [Value.int .u8 x]) ys) = some ys
  | [] => rfl
  | y :: ys => by
    show bytesL (Value.int .u8 y :: rows _ ys) = _
    rw [bytesL, bytesL_rows ys]
theorem pr_seq (t : TypeId) (x y : Operand) (s : ByteArray) : pureRun P (do Go.eqGuard .eql t x y (.string s) (.string s); Go.binOp .eql t (.string s) (.string s)) = some (.bool true) := by
  rw [binOp_string_eql, beq_self_eq_true]
  rfl
/-- The bytes of a row as a string. -/
theorem gen_str {d : TypeId} {el : TypeId} (hm : memConv t d = true) (hu : P.underlying t = some (.slice el)) (he : P.underlying el = some (.int .u8)) (hd : P.underlying d = some .string) (hl : lk l s = some (.slice (some ⟨k, 0, none⟩) n c)) (hn : xs.length = n) (hg : h.get k = some (.cells ⟨rows (fun x : Int => [Value.int .u8 x]) xs, sz, op⟩)) (q : K (aStr xs) h) :
    iStep P w (.gen (.convert t d (.tmp s))) l h K := by
  subst hn
  refine ⟨_, _, ?_, q⟩
  have e1 : aEnv (trOf l) (.tmp s) = some (.slice (some ⟨k, 0, none⟩) xs.length c) := by simp only [aEnv, trOf_get, hl]
  have hlen : (rows (fun x : Int => [Value.int .u8 x]) xs).length = xs.length := by
    have key : ∀ ys : List Int, (rows (fun x : Int => [Value.int .u8 x]) ys).length = ys.length := by
      intro ys
      induction ys with
      | nil => rfl
      | cons x r ih => show (_ :: rows _ r).length = _; simpa using ih
    exact key xs
  have e2 : aFirst h 1 xs.length (.slice (some ⟨k, 0, none⟩) xs.length c) = some (rows (fun x : Int => [Value.int .u8 x]) xs) := by
    show (if xs.length * 1 = 0 then some [] else _) = _
    rw [Nat.mul_one]
    by_cases h0 : xs.length = 0
    · rw [if_pos h0, List.eq_nil_of_length_eq_zero h0]
      rfl
    · rw [if_neg h0]
      simp only [hg, Nat.zero_add, hlen, List.drop_zero]
      rw [if_pos (Nat.le_refl _), List.take_of_length_le (by omega)]
  have e3 : noAddr (.slice (some ⟨k, 0, none⟩) xs.length c) = false := rfl
  simp only [aOp, e1, e3, Bool.false_eq_true, if_false, hm, if_true, aToStr, hu, hd, he, e2, bytesL_rows]
/-- A string is itself. -/
theorem gen_seq {t u : TypeId} {s e : Nat} {x : ByteArray} (h1 : lk l s = some (.string x)) (h2 : lk l e = some (.string x)) (q : K (.bool true) h) : iStep P w (.gen (.binOp .eql t (.tmp s) (.tmp e) u)) l h K := by
  refine ⟨_, _, ?_, q⟩
  have e1 : aEnv (trOf l) (.tmp s) = some (.string x) := by simp only [aEnv, trOf_get, h1]
  have e2 : aEnv (trOf l) (.tmp e) = some (.string x) := by simp only [aEnv, trOf_get, h2]
  exact op_bin e1 e2 rfl rfl rfl (pr_seq _ _ _ _)
end
end Go.Vm
namespace Go.Proofs.YtgjokhodccacoaaDoor
open Go.RowKit Go.Vm
set_option maxRecDepth 100000
theorem rget_f {n c sz k : Nat} {op : Bool} {xs : List Int} {h : AH} (at_ : Int) (hn : xs.length = n) (hB : isB xs) (hb : n ≤ 1000000) (hc : n ≤ c) (hco : c < openB) (hs : h.sees 0 = true) (hg : h.get k = some (.cells ⟨rows eB xs, sz, op⟩)) :
    Fc Tryd.prog 26 [.slice (some ⟨k, 0, none⟩) n c, .int .i64 at_] h (gtV h.next (getR xs at_)) (h.news [.cells ⟨rows eB (getR xs at_).2.1, 1, true⟩]) :=
  Fc.lift1o (os := [((getR xs at_).2.1.length, rows eB (getR xs at_).2.1, 1)]) (mk := fun ss => ss ++ [.int .i64 at_]) (mkv := fun ss => .tuple ⟨[.agg ⟨[Value.int .i64 (getR xs at_).1] ++ ss ++ []⟩, .int .i64 (getR xs at_).2.2.1, .int .i64 (getR xs at_).2.2.2]⟩) (rget_c n c at_ xs hn hB hb hc hco) (MkL.app rfl) (MkV.tup (MkL.agg1 (MkL.mid rfl rfl) rfl)) (rows_no (f := eB) _) (fun o h => by simp at h; subst h; exact rows_no (f := eB) _) hs hg
/-- A row with its first cells turned. -/
def flp (xs : List Int) : Nat → List Int
  | 0 => xs
  | i + 1 => (flp xs i).set i (btI .xor .u8 (nth xs i) 255)
theorem flp_len {xs : List Int} : ∀ i, (flp xs i).length = xs.length
  | 0 => rfl
  | i + 1 => by rw [flp, List.length_set, flp_len i]
theorem flp_get {xs : List Int} : ∀ i j, i ≤ j → (flp xs i)[j]? = xs[j]?
  | 0, _, _ => rfl
  | i + 1, j, h => by rw [flp, List.getElem?_set_ne (by omega), flp_get i j (by omega)]
theorem flp_nth {xs : List Int} {i : Nat} : nth (flp xs i) i = nth xs i := by
  unfold nth
  simp only [List.getD_eq_getElem?_getD, List.get!Internal_eq_getElem!, List.getElem!_eq_getElem?_getD, flp_get i i (Nat.le_refl _)]
theorem u_str : Tryd.prog.underlying 9 = some .string := by kernel_rfl
theorem u_uint8 : Tryd.prog.underlying 5 = some (.int .u8) := by kernel_rfl
/- boule/boulelaw06.RecordGets · slots 72 · names 0:b 1:at 2:b 3:at 5:in 6:f 7:next 8:e 9:g 10:to 11:h 12:i · results [4] -/
def ir4_r0 : IC := .reg [⟨some 4, none, false, .mv (.k (.bool false))⟩] (some [0, 1])
def ir4_r1 : IC := .reg [⟨some 13, none, false, .mv (.t 0)⟩,
  ⟨some 14, none, false, .len (.t 13)⟩,
  ⟨some 15, none, false, .cmp .gtr (.t 14) (.k (.int .i64 31000))⟩] (some [0, 1, 15])
def ir4_r2 : IC := .reg [⟨some 16, none, false, .call (.f 19) []⟩,
  ⟨some 4, none, false, .mv (.t 16)⟩] (some [4])
def ir4_1 : IC := .seq ir4_r2 .ret
def ir4_2 : IC := .cond (.t 15) ir4_1 .skip
def ir4_3 : IC := .seq ir4_r1 ir4_2
def ir4_r3 : IC := .reg [⟨some 17, none, false, .mv (.t 0)⟩,
  ⟨some 18, none, false, .call (.f 20) [(.t 17)]⟩,
  ⟨some 5, none, false, .mv (.t 18)⟩] (some [0, 1, 5])
def ir4_r4 : IC := .reg [⟨some 20, none, false, .mv (.t 5)⟩,
  ⟨some 21, none, false, .mv (.t 1)⟩,
  ⟨some 22, none, false, .call (.f 25) [(.t 20), (.t 21)]⟩,
  ⟨some 19, none, false, .mv (.t 22)⟩,
  ⟨some 23, none, false, .ext (.t 19) 0⟩,
  ⟨some 24, none, false, .ext (.t 19) 1⟩,
  ⟨some 25, none, false, .ext (.t 19) 2⟩,
  ⟨some 6, none, false, .alloc [(.int .i64 0), (.slice none 0 0)]⟩,
  ⟨none, none, false, .st 2 (.t 6) (.t 23)⟩,
  ⟨some 7, none, false, .mv (.t 24)⟩,
  ⟨some 8, none, false, .mv (.t 25)⟩] (some [0, 1, 5, 6, 7, 8])
def ir4_r5 : IC := .reg [⟨some 27, none, false, .mv (.t 0)⟩,
  ⟨some 28, none, false, .mv (.t 1)⟩,
  ⟨some 29, none, false, .call (.f 26) [(.t 27), (.t 28)]⟩,
  ⟨some 26, none, false, .mv (.t 29)⟩,
  ⟨some 30, none, false, .ext (.t 26) 0⟩,
  ⟨some 31, none, false, .ext (.t 26) 1⟩,
  ⟨some 32, none, false, .ext (.t 26) 2⟩,
  ⟨some 9, none, false, .alloc [(.int .i64 0), (.slice none 0 0)]⟩,
  ⟨none, none, false, .st 2 (.t 9) (.t 30)⟩,
  ⟨some 10, none, false, .mv (.t 31)⟩,
  ⟨some 11, none, false, .mv (.t 32)⟩] (some [5, 6, 7, 8, 9, 10, 11])
def ir4_r6 : IC := .reg [⟨some 12, none, false, .mv (.k (.int .i64 0))⟩] (some [5, 6, 7, 8, 9, 10, 11, 12])
def ir4_r7 : IC := .reg [⟨some 33, none, false, .mv (.t 12)⟩,
  ⟨some 34, none, false, .mv (.t 5)⟩,
  ⟨some 35, none, false, .len (.t 34)⟩,
  ⟨some 36, none, false, .cmp .lss (.t 33) (.t 35)⟩] (some [5, 6, 7, 8, 9, 10, 11, 12, 36])
def ir4_4 : IC := .cond (.t 36) .skip (.exit 0)
def ir4_5 : IC := .seq ir4_r7 ir4_4
def ir4_r9 : IC := .reg [⟨some 39, none, false, .mv (.t 5)⟩,
  ⟨some 40, none, false, .mv (.t 12)⟩,
  ⟨some 41, none, false, .iad 1 (.t 39) (.t 40)⟩,
  ⟨some 42, none, false, .ldc (.t 41)⟩,
  ⟨some 43, none, false, .bits .xor (.t 42) (.k (.int .u8 255))⟩,
  ⟨some 44, none, false, .iad 1 (.t 39) (.t 40)⟩,
  ⟨none, none, false, .st 1 (.t 44) (.t 43)⟩] (some [5, 6, 7, 8, 9, 10, 11, 12])
def ir4_6 : IC := .block 1 ir4_r9
def ir4_r8 : IC := .reg [⟨some 37, none, false, .mv (.t 12)⟩,
  ⟨some 38, none, false, .ar .add (.t 37) (.k (.int .i64 1))⟩,
  ⟨some 12, none, false, .mv (.t 38)⟩] (some [5, 6, 7, 8, 9, 10, 11, 12])
def ir4_7 : IC := .seq ir4_6 ir4_r8
def ir4_8 : IC := .seq ir4_5 ir4_7
def ir4_9 : IC := .loop ir4_8
def ir4_10 : IC := .block 0 ir4_9
def ir4_11 : IC := .seq ir4_r6 ir4_10
def ir4_r10 : IC := .reg [⟨some 45, none, false, .fad 0 (.t 6)⟩,
  ⟨some 46, none, false, .ldc (.t 45)⟩,
  ⟨some 47, none, false, .fad 0 (.t 9)⟩,
  ⟨some 48, none, false, .ldc (.t 47)⟩,
  ⟨some 49, none, false, .cmp .eql (.t 46) (.t 48)⟩,
  ⟨some 50, none, false, .mv (.t 49)⟩,
  ⟨some 51, some (50, true), false, .fad 1 (.t 6)⟩,
  ⟨some 52, some (50, true), false, .ldc (.t 51)⟩,
  ⟨some 53, some (50, true), false, .gen (.convert 22 9 (.tmp 52))⟩,
  ⟨some 54, some (50, true), false, .fad 1 (.t 9)⟩,
  ⟨some 55, some (50, true), false, .ldc (.t 54)⟩,
  ⟨some 56, some (50, true), false, .gen (.convert 22 9 (.tmp 55))⟩,
  ⟨some 57, some (50, true), false, .gen (.binOp .eql 9 (.tmp 53) (.tmp 56) 9)⟩,
  ⟨some 58, none, false, .pick (.t 50) (.t 57) (.k (.bool false))⟩,
  ⟨some 59, none, false, .mv (.t 58)⟩,
  ⟨some 60, some (59, true), false, .mv (.t 7)⟩,
  ⟨some 61, some (59, true), false, .mv (.t 10)⟩,
  ⟨some 62, some (59, true), false, .cmp .eql (.t 60) (.t 61)⟩,
  ⟨some 63, none, false, .pick (.t 59) (.t 62) (.k (.bool false))⟩,
  ⟨some 64, none, false, .mv (.t 63)⟩,
  ⟨some 65, some (64, true), false, .mv (.t 8)⟩,
  ⟨some 66, some (64, true), false, .mv (.t 11)⟩,
  ⟨some 67, some (64, true), false, .cmp .eql (.t 65) (.t 66)⟩,
  ⟨some 68, none, false, .pick (.t 64) (.t 67) (.k (.bool false))⟩,
  ⟨some 69, none, false, .mv (.t 68)⟩,
  ⟨some 70, some (69, true), false, .call (.f 19) []⟩,
  ⟨some 71, none, false, .pick (.t 69) (.t 70) (.k (.bool false))⟩,
  ⟨some 4, none, false, .mv (.t 71)⟩] (some [4])
def ir4_12 : IC := .seq ir4_r10 .ret
def ir4_13 : IC := .seq ir4_11 ir4_12
def ir4_14 : IC := .seq ir4_r5 ir4_13
def ir4_15 : IC := .seq ir4_r4 ir4_14
def ir4_16 : IC := .seq ir4_r3 ir4_15
def ir4_17 : IC := .seq ir4_3 ir4_16
def ir4_18 : IC := .seq ir4_r0 ir4_17
def ir4 : IC := ir4_18
theorem fn4 : FnIs Tryd.prog 4 ir4 72 [.tmp 4] := ⟨Tryd.f4, Tryd.f4.body.getD .skip, Tryd.func4, by kernel_rfl, by kernel_rfl, by kernel_rfl, by kernel_rfl⟩
theorem gets_c (n c : Nat) (at_ : Int) (xs : List Int) (hn : xs.length = n) (hB : isB xs) (hc : n ≤ c) (hco : c < openB) :
    Fc Tryd.prog 4 [.slice (some ⟨1, 0, none⟩) n c, .int .i64 at_] (Hp 2 [none, srB xs]) (.bool true) (Hp 2 [none, srB xs]) := by
  refine Fc.intro0 fn4 (by simp) rfl rfl ?_; simp only [argF]
  refine ITri.seq ?_
  refine ITri.reg pok ?_; simp -implicitDefEqProofs (disch := first | decide | exact of_eq_true (eq_true rfl) | omega | assumption) only [ ↓vcD, vcE, ↓vcG, vcF, evs, evP, evB, intsOf, fillC, Value.cells, pt, Value.oneCell', reduceIte, reduceCtorEq, Nat.reduceEqDiff, Nat.reduceAdd, Nat.reduceMul, Nat.reduceLT, Nat.reduceBEq, Nat.reduceLeDiff, Nat.reduceSub] -- r0 law.go:141
  refine ITri.seq ?_
  refine ITri.seq ?_
  refine ITri.reg pok ?_; simp -implicitDefEqProofs (disch := first | decide | exact of_eq_true (eq_true rfl) | omega | assumption) only [ ↓vcD, vcE, ↓vcG, vcF, evs, evP, evB, intsOf, fillC, Value.cells, pt, Value.oneCell', reduceIte, reduceCtorEq, Nat.reduceEqDiff, Nat.reduceAdd, Nat.reduceMul, Nat.reduceLT, Nat.reduceBEq, Nat.reduceLeDiff, Nat.reduceSub] -- r1 law.go:142
  refine ITri.condD (by rfl) (fun h1 => ?_) (fun h1 => ?_) -- %15
  · refine ITri.seq ?_
    refine ITri.reg pok ?_; simp -implicitDefEqProofs (disch := first | decide | exact of_eq_true (eq_true rfl) | omega | assumption) only [ ↓vcD, vcE, ↓vcG, vcF, evs, evP, evB, intsOf, fillC, Value.cells, pt, Value.oneCell', reduceIte, reduceCtorEq, Nat.reduceEqDiff, Nat.reduceAdd, Nat.reduceMul, Nat.reduceLT, Nat.reduceBEq, Nat.reduceLeDiff, Nat.reduceSub] -- r2 law.go:143 CALLS .call F19 []
    refine ⟨_, _, knownT, ?_⟩
    try simp -implicitDefEqProofs (disch := first | decide | exact of_eq_true (eq_true rfl) | omega | assumption) only [ ↓vcD, vcE, ↓vcG, vcF, evs, evP, evB, intsOf, fillC, Value.cells, pt, Value.oneCell', reduceIte, reduceCtorEq, Nat.reduceEqDiff, Nat.reduceAdd, Nat.reduceMul, Nat.reduceLT, Nat.reduceBEq, Nat.reduceLeDiff, Nat.reduceSub]
    refine ITri.ret ?_; exact EndR.plain (by simp) (by rfl) (by rfl) (by rfl)
  refine ITri.skip ?_; simp only [SeqQ_normal, BlkQ_normal]
  refine ITri.seq ?_
  refine ITri.reg pok ?_; simp -implicitDefEqProofs (disch := first | decide | exact of_eq_true (eq_true rfl) | omega | assumption) only [ ↓vcD, vcE, ↓vcG, vcF, evs, evP, evB, intsOf, fillC, Value.cells, pt, Value.oneCell', reduceIte, reduceCtorEq, Nat.reduceEqDiff, Nat.reduceAdd, Nat.reduceMul, Nat.reduceLT, Nat.reduceBEq, Nat.reduceLeDiff, Nat.reduceSub] -- r3 law.go:145 CALLS .call F20 [%17]
  refine ⟨_, _, ownB_f hn (by omega) (sees0 rfl (of_decide_eq_true rfl)) (get_hq rfl rfl), ?_⟩
  simp -implicitDefEqProofs (disch := first | decide | exact of_eq_true (eq_true rfl) | omega | assumption) only [news_c, news_n,  ↓vcD, vcE, ↓vcG, vcF, evs, evP, evB, intsOf, fillC, Value.cells, pt, Value.oneCell', reduceIte, reduceCtorEq, Nat.reduceEqDiff, Nat.reduceAdd, Nat.reduceMul, Nat.reduceLT, Nat.reduceBEq, Nat.reduceLeDiff, Nat.reduceSub]
  refine ITri.seq ?_
  refine ITri.reg pok ?_; simp -implicitDefEqProofs (disch := first | decide | exact of_eq_true (eq_true rfl) | omega | assumption) only [ ↓vcD, vcE, ↓vcG, vcF, evs, evP, evB, intsOf, fillC, Value.cells, pt, Value.oneCell', reduceIte, reduceCtorEq, Nat.reduceEqDiff, Nat.reduceAdd, Nat.reduceMul, Nat.reduceLT, Nat.reduceBEq, Nat.reduceLeDiff, Nat.reduceSub] -- r4 law.go:146 CALLS .call F25 [%20, %21]
  refine ⟨_, _, get_f at_ hn hB (by omega) (sees0 rfl (of_decide_eq_true rfl)) (get_hq rfl rfl), ?_⟩
  simp -implicitDefEqProofs (disch := first | decide | exact of_eq_true (eq_true rfl) | omega | assumption) only [news_c, news_n,  ↓vcD, vcE, ↓vcG, vcF, evs, evP, evB, intsOf, fillC, Value.cells, pt, Value.oneCell', reduceIte, reduceCtorEq, Nat.reduceEqDiff, Nat.reduceAdd, Nat.reduceMul, Nat.reduceLT, Nat.reduceBEq, Nat.reduceLeDiff, Nat.reduceSub]
  refine ITri.seq ?_
  refine ITri.reg pok ?_; simp -implicitDefEqProofs (disch := first | decide | exact of_eq_true (eq_true rfl) | omega | assumption) only [ ↓vcD, vcE, ↓vcG, vcF, evs, evP, evB, intsOf, fillC, Value.cells, pt, Value.oneCell', reduceIte, reduceCtorEq, Nat.reduceEqDiff, Nat.reduceAdd, Nat.reduceMul, Nat.reduceLT, Nat.reduceBEq, Nat.reduceLeDiff, Nat.reduceSub] -- r5 law.go:147 CALLS .call F26 [%27, %28]
  refine ⟨_, _, rget_f at_ hn hB (by omega) hc hco (sees0 rfl (of_decide_eq_true rfl)) (get_hq rfl rfl), ?_⟩
  generalize getR xs at_ = r at *
  simp -implicitDefEqProofs (disch := first | decide | exact of_eq_true (eq_true rfl) | omega | assumption) only [news_c, news_n,  ↓vcD, vcE, ↓vcG, vcF, evs, evP, evB, intsOf, fillC, Value.cells, pt, Value.oneCell', reduceIte, reduceCtorEq, Nat.reduceEqDiff, Nat.reduceAdd, Nat.reduceMul, Nat.reduceLT, Nat.reduceBEq, Nat.reduceLeDiff, Nat.reduceSub]
  refine ITri.seq ?_
  refine ITri.seq ?_
  refine ITri.reg pok ?_; simp -implicitDefEqProofs (disch := first | decide | exact of_eq_true (eq_true rfl) | omega | assumption) only [ ↓vcD, vcE, ↓vcG, vcF, evs, evP, evB, intsOf, fillC, Value.cells, pt, Value.oneCell', reduceIte, reduceCtorEq, Nat.reduceEqDiff, Nat.reduceAdd, Nat.reduceMul, Nat.reduceLT, Nat.reduceBEq, Nat.reduceLeDiff, Nat.reduceSub] -- r6 law.go:148
  have z0 : (0 : Int) = ((0 : Nat) : Int) := rfl
  have z1 : rows eB xs = rows eB (flp xs 0) := rfl
  refine ITri.block ?_ -- 0
  refine ITri.loop (fun i : Nat => [(5, sO 2 n), (6, pt 4), (7, .int .i64 r.2.2.1), (8, .int .i64 r.2.2.2), (9, pt 6), (10, .int .i64 r.2.2.1), (11, .int .i64 r.2.2.2), (12, .int .i64 i)]) (fun _ => []) (fun i => Hp 2 [none, srB xs, some (.cells ⟨rows eB (flp xs i), 1, true⟩), some (.cells ⟨rows eB r.2.1, 1, true⟩), some (.cells ⟨[.int .i64 r.1, sO 3 r.2.1.length], 1, false⟩), some (.cells ⟨rows eB r.2.1, 1, true⟩), some (.cells ⟨[.int .i64 r.1, sO 5 r.2.1.length], 1, false⟩)]) (fun i => i ≤ n) (fun i => n - i) 0 (by omega) (Wk.sub ⟨rfl, rfl, rfl, rfl, rfl, rfl, rfl, rfl, trivial⟩) fun i hi => ?_
  refine ITri.seq ?_
  refine ITri.seq ?_
  refine ITri.reg pok ?_; simp -implicitDefEqProofs (disch := first | decide | exact of_eq_true (eq_true rfl) | omega | assumption) only [ ↓vcD, vcE, ↓vcG, vcF, evs, evP, evB, intsOf, fillC, Value.cells, pt, Value.oneCell', reduceIte, reduceCtorEq, Nat.reduceEqDiff, Nat.reduceAdd, Nat.reduceMul, Nat.reduceLT, Nat.reduceBEq, Nat.reduceLeDiff, Nat.reduceSub] -- r7 law.go:148
  refine ITri.condD (by rfl) (fun h3 => ?_) (fun h3 => ?_) -- %36
  · have hix : i < xs.length := by omega
    have hif : i < (flp xs i).length := by rw [flp_len]; exact hix
    have hg := getB hif
    rw [flp_nth] at hg
    have hv := hB _ (nth_mem hix)
    have hw : writeAt (rows eB (flp xs i)) i [.int .u8 (btI .xor .u8 (nth xs i) 255)] = rows eB (flp xs (i + 1)) := by
      have := rows_writef (f := eB) (c := 1) (v := .int .u8 (btI .xor .u8 (nth xs i) 255)) (btI .xor .u8 (nth xs i) 255) hif (j := 0) (by decide) rfl
      rwa [Nat.mul_one, Nat.add_zero] at this
    have hi1 : ((i : Int) + 1) = ((i + 1 : Nat) : Int) := by omega
    refine ITri.skip ?_; simp only [SeqQ_normal, BlkQ_normal]
    refine ITri.seq ?_
    refine ITri.block ?_ -- 1
    refine ITri.reg pok ?_; simp -implicitDefEqProofs (disch := first | decide | exact of_eq_true (eq_true rfl) | omega | assumption) only [hg, hw, rows_len, flp_len,  ↓vcD, vcE, ↓vcG, vcF, evs, evP, evB, intsOf, fillC, Value.cells, pt, Value.oneCell', reduceIte, reduceCtorEq, Nat.reduceEqDiff, Nat.reduceAdd, Nat.reduceMul, Nat.reduceLT, Nat.reduceBEq, Nat.reduceLeDiff, Nat.reduceSub] -- r9 law.go:149
    refine ITri.reg pok ?_; simp -implicitDefEqProofs (disch := first | decide | exact of_eq_true (eq_true rfl) | omega | assumption) only [hi1,  ↓vcD, vcE, ↓vcG, vcF, evs, evP, evB, intsOf, fillC, Value.cells, pt, Value.oneCell', reduceIte, reduceCtorEq, Nat.reduceEqDiff, Nat.reduceAdd, Nat.reduceMul, Nat.reduceLT, Nat.reduceBEq, Nat.reduceLeDiff, Nat.reduceSub] -- r8 law.go:148
    exact LoopQ.next (i + 1) (by omega) (by omega) (Wk.sub ⟨rfl, rfl, rfl, rfl, rfl, rfl, rfl, rfl, trivial⟩)
  refine ITri.exit ?_; try simp -implicitDefEqProofs (disch := first | decide | exact of_eq_true (eq_true rfl) | omega | assumption) only [ ↓vcD, vcE, ↓vcG, vcF, evs, evP, evB, intsOf, fillC, Value.cells, pt, Value.oneCell', reduceIte, reduceCtorEq, Nat.reduceEqDiff, Nat.reduceAdd, Nat.reduceMul, Nat.reduceLT, Nat.reduceBEq, Nat.reduceLeDiff, Nat.reduceSub]
  refine ITri.seq ?_
  refine ITri.reg pok ?_; simp -implicitDefEqProofs (disch := first | decide | exact of_eq_true (eq_true rfl) | omega | assumption) only [decide_true,  ↓vcD, vcE, ↓vcG, vcF, evs, evP, evB, intsOf, fillC, Value.cells, pt, Value.oneCell', reduceIte, reduceCtorEq, Nat.reduceEqDiff, Nat.reduceAdd, Nat.reduceMul, Nat.reduceLT, Nat.reduceBEq, Nat.reduceLeDiff, Nat.reduceSub] -- r10 law.go:151 CALLS .call F19 [] GUARDS [50, 59, 64, 69] live [4]
  refine gen_str (xs := r.2.1) (by decide) u_slB u_uint8 u_str rfl rfl (get_hq rfl rfl) ?_
  try simp -implicitDefEqProofs (disch := first | decide | exact of_eq_true (eq_true rfl) | omega | assumption) only [ ↓vcD, vcE, ↓vcG, vcF, evs, evP, evB, intsOf, fillC, Value.cells, pt, Value.oneCell', reduceIte, reduceCtorEq, Nat.reduceEqDiff, Nat.reduceAdd, Nat.reduceMul, Nat.reduceLT, Nat.reduceBEq, Nat.reduceLeDiff, Nat.reduceSub]
  refine gen_str (xs := r.2.1) (by decide) u_slB u_uint8 u_str rfl rfl (get_hq rfl rfl) ?_
  try simp -implicitDefEqProofs (disch := first | decide | exact of_eq_true (eq_true rfl) | omega | assumption) only [ ↓vcD, vcE, ↓vcG, vcF, evs, evP, evB, intsOf, fillC, Value.cells, pt, Value.oneCell', reduceIte, reduceCtorEq, Nat.reduceEqDiff, Nat.reduceAdd, Nat.reduceMul, Nat.reduceLT, Nat.reduceBEq, Nat.reduceLeDiff, Nat.reduceSub]
  refine gen_seq rfl rfl ?_
  simp -implicitDefEqProofs (disch := first | decide | exact of_eq_true (eq_true rfl) | omega | assumption) only [decide_true,  ↓vcD, vcE, ↓vcG, vcF, evs, evP, evB, intsOf, fillC, Value.cells, pt, Value.oneCell', reduceIte, reduceCtorEq, Nat.reduceEqDiff, Nat.reduceAdd, Nat.reduceMul, Nat.reduceLT, Nat.reduceBEq, Nat.reduceLeDiff, Nat.reduceSub]
  refine ⟨_, _, knownT, ?_⟩
  try simp -implicitDefEqProofs (disch := first | decide | exact of_eq_true (eq_true rfl) | omega | assumption) only [ ↓vcD, vcE, ↓vcG, vcF, evs, evP, evB, intsOf, fillC, Value.cells, pt, Value.oneCell', reduceIte, reduceCtorEq, Nat.reduceEqDiff, Nat.reduceAdd, Nat.reduceMul, Nat.reduceLT, Nat.reduceBEq, Nat.reduceLeDiff, Nat.reduceSub]
  refine ITri.ret ?_; exact EndR.plain (by simp) (by rfl) (by rfl) (by rfl)
end Go.Proofs.YtgjokhodccacoaaDoor
