/-
  Chapter 8 at the top: the lengths of the parts of a block, by names.
-/
import Derived.Test.YtlhhkmkclmedgaaPorC
import Derived.Test.YtlhhkmkclmedgaaMj
set_option linter.unusedSimpArgs false
set_option linter.unusedVariables false
namespace Go.Proofs.Ytlhhkmkclmedgaa
open Go.RowKit Go.Vm
set_option maxRecDepth 100000

/-- The sum of the first numbers. -/
def pS (xs : List Int) (k : Nat) : Int := (xs.take k).sum
theorem pS_succ {xs : List Int} {k : Nat} (hk : k < xs.length) : pS xs (k + 1) = pS xs k + nth xs k := by
  unfold pS
  rw [List.take_add_one, get_nth hk]
  simp
theorem pS_0 (xs : List Int) : pS xs 0 = 0 := rfl
theorem pS_le {xs : List Int} {c : Int} (h : ∀ x ∈ xs, 0 ≤ x ∧ x ≤ c) (hc : 0 ≤ c) : ∀ k, k ≤ xs.length → 0 ≤ pS xs k ∧ pS xs k ≤ k * c
  | 0, _ => by rw [pS_0]; simp
  | k + 1, hk => by
    have := pS_le h hc k (by omega)
    have h2 := h _ (nth_mem (show k < xs.length by omega))
    rw [pS_succ (by omega), Int.natCast_add, Int.add_mul]
    omega

/- boule/slice.sum · slots 16 · names 0:l 1:l 2:n 3:_ 4:x · results [2] -/
def ir30_r0 : IC := .reg [⟨some 2, none, false, .mv (.k (.int .i64 0))⟩] (some [0, 2])
def ir30_r1 : IC := .reg [⟨some 5, none, false, .mv (.t 0)⟩,
  ⟨some 6, none, false, .len (.t 5)⟩,
  ⟨some 7, none, false, .mv (.k (.int .i64 0))⟩] (some [2, 5, 6, 7])
def ir30_r2 : IC := .reg [⟨some 8, none, false, .cmp .lss (.t 7) (.t 6)⟩] (some [2, 5, 6, 7, 8])
def ir30_1 : IC := .cond (.t 8) .skip (.exit 0)
def ir30_r3 : IC := .reg [⟨some 9, none, false, .iad 1 (.t 5) (.t 7)⟩,
  ⟨some 10, none, false, .ldc (.t 9)⟩,
  ⟨some 4, none, false, .mv (.t 10)⟩] (some [2, 4, 5, 6, 7])
def ir30_r4 : IC := .reg [⟨some 11, none, false, .mv (.t 2)⟩,
  ⟨some 12, none, false, .mv (.t 4)⟩,
  ⟨some 13, none, false, .ar .add (.t 11) (.t 12)⟩,
  ⟨some 2, none, false, .mv (.t 13)⟩] (some [2, 5, 6, 7])
def ir30_2 : IC := .seq ir30_r3 ir30_r4
def ir30_3 : IC := .block 1 ir30_2
def ir30_r5 : IC := .reg [⟨some 14, none, false, .ar .add (.t 7) (.k (.int .i64 1))⟩,
  ⟨some 7, none, false, .mv (.t 14)⟩] (some [2, 5, 6, 7])
def ir30_4 : IC := .seq ir30_3 ir30_r5
def ir30_5 : IC := .seq ir30_1 ir30_4
def ir30_6 : IC := .seq ir30_r2 ir30_5
def ir30_7 : IC := .loop ir30_6
def ir30_8 : IC := .block 0 ir30_7
def ir30_9 : IC := .seq ir30_r1 ir30_8
def ir30_r6 : IC := .reg [⟨some 15, none, false, .mv (.t 2)⟩,
  ⟨some 2, none, false, .mv (.t 15)⟩] (some [2])
def ir30_10 : IC := .seq ir30_r6 .ret
def ir30_11 : IC := .seq ir30_9 ir30_10
def ir30_12 : IC := .seq ir30_r0 ir30_11
def ir30 : IC := ir30_12
theorem fn30 : FnIs Try.prog 30 ir30 16 [.tmp 2] := ⟨Try.f30, Try.f30.body.getD .skip, Try.func30, by kernel_rfl, by kernel_rfl, by kernel_rfl, by kernel_rfl⟩
/- boule/slice.lengths · slots 43 · names 0:p 1:p 3:l 4:i 5:n · results [2] -/
def ir29_r0 : IC := .reg [⟨some 1, none, false, .box (.t 0)⟩,
  ⟨some 2, none, false, .mv (.k (.slice none 0 0))⟩] (some [1])
def ir29_r1 : IC := .reg [⟨some 6, none, false, .fad 2 (.t 1)⟩,
  ⟨some 7, none, false, .ldc (.t 6)⟩,
  ⟨some 8, none, false, .bsl 1 1 [(.int .i64 0)] [(0, (.t 7))]⟩,
  ⟨some 3, none, false, .mv (.t 8)⟩] (some [1, 3])
def ir29_r2 : IC := .reg [⟨some 9, none, false, .fad 1 (.t 1)⟩,
  ⟨some 10, none, false, .ldc (.t 9)⟩,
  ⟨some 11, none, false, .len (.t 10)⟩,
  ⟨some 12, none, false, .mv (.k (.int .i64 0))⟩] (some [1, 3, 10, 11, 12])
def ir29_r3 : IC := .reg [⟨some 13, none, false, .cmp .lss (.t 12) (.t 11)⟩] (some [1, 3, 10, 11, 12, 13])
def ir29_1 : IC := .cond (.t 13) .skip (.exit 0)
def ir29_r4 : IC := .reg [⟨some 14, none, false, .mv (.t 12)⟩,
  ⟨some 15, none, false, .iad 1 (.t 10) (.t 12)⟩,
  ⟨some 16, none, false, .ldc (.t 15)⟩,
  ⟨some 4, none, false, .mv (.t 14)⟩,
  ⟨some 5, none, false, .mv (.t 16)⟩] (some [1, 3, 4, 5, 10, 11, 12])
def ir29_r5 : IC := .reg [⟨some 17, none, false, .mv (.t 3)⟩,
  ⟨some 18, none, false, .mv (.t 5)⟩,
  ⟨some 19, none, false, .bsl 1 1 [(.int .i64 0)] [(0, (.t 18))]⟩,
  ⟨some 20, none, false, .app 1 8 (.t 17) (.t 19)⟩,
  ⟨some 3, none, false, .mv (.t 20)⟩] (some [1, 3, 4, 10, 11, 12])
def ir29_r6 : IC := .reg [⟨some 21, none, false, .mv (.t 3)⟩,
  ⟨some 22, none, false, .fad 0 (.t 1)⟩,
  ⟨some 23, none, false, .ldc (.t 22)⟩,
  ⟨some 24, none, false, .mv (.t 4)⟩,
  ⟨some 25, none, false, .fad 0 (.t 1)⟩,
  ⟨some 26, none, false, .ldc (.t 25)⟩,
  ⟨some 27, none, false, .len (.t 26)⟩,
  ⟨some 28, none, false, .mm true [(.t 24), (.t 27)]⟩,
  ⟨some 29, none, false, .mv (.t 4)⟩,
  ⟨some 30, none, false, .ar .add (.t 29) (.k (.int .i64 1))⟩,
  ⟨some 31, none, false, .fad 0 (.t 1)⟩,
  ⟨some 32, none, false, .ldc (.t 31)⟩,
  ⟨some 33, none, false, .len (.t 32)⟩,
  ⟨some 34, none, false, .mm true [(.t 30), (.t 33)]⟩,
  ⟨some 35, none, false, .gen (.slice 33 (.tmp 23) (some (.tmp 28)) (some (.tmp 34)) none)⟩,
  ⟨some 36, none, false, .app 1 8 (.t 21) (.t 35)⟩,
  ⟨some 3, none, false, .mv (.t 36)⟩] (some [1, 3, 10, 11, 12])
def ir29_2 : IC := .seq ir29_r5 ir29_r6
def ir29_3 : IC := .seq ir29_r4 ir29_2
def ir29_4 : IC := .block 1 ir29_3
def ir29_r7 : IC := .reg [⟨some 37, none, false, .ar .add (.t 12) (.k (.int .i64 1))⟩,
  ⟨some 12, none, false, .mv (.t 37)⟩] (some [1, 3, 10, 11, 12])
def ir29_5 : IC := .seq ir29_4 ir29_r7
def ir29_6 : IC := .seq ir29_1 ir29_5
def ir29_7 : IC := .seq ir29_r3 ir29_6
def ir29_8 : IC := .loop ir29_7
def ir29_9 : IC := .block 0 ir29_8
def ir29_10 : IC := .seq ir29_r2 ir29_9
def ir29_r8 : IC := .reg [⟨some 38, none, false, .mv (.t 3)⟩,
  ⟨some 39, none, false, .fad 3 (.t 1)⟩,
  ⟨some 40, none, false, .ldc (.t 39)⟩,
  ⟨some 41, none, false, .bsl 1 1 [(.int .i64 0)] [(0, (.t 40))]⟩,
  ⟨some 42, none, false, .app 1 8 (.t 38) (.t 41)⟩,
  ⟨some 2, none, false, .mv (.t 42)⟩] (some [2])
def ir29_11 : IC := .seq ir29_r8 .ret
def ir29_12 : IC := .seq ir29_10 ir29_11
def ir29_13 : IC := .seq ir29_r1 ir29_12
def ir29_14 : IC := .seq ir29_r0 ir29_13
def ir29 : IC := ir29_14
theorem fn29 : FnIs Try.prog 29 ir29 43 [.tmp 2] := ⟨Try.f29, Try.f29.body.getD .skip, Try.func29, by kernel_rfl, by kernel_rfl, by kernel_rfl, by kernel_rfl⟩
/- boule/slice.areParts · slots 40 · names 0:p 1:p 3:l · results [2] -/
def ir28_r0 : IC := .reg [⟨some 1, none, false, .box (.t 0)⟩,
  ⟨some 2, none, false, .mv (.k (.bool false))⟩] (some [1])
def ir28_r1 : IC := .reg [⟨some 4, none, false, .fad 1 (.t 1)⟩,
  ⟨some 5, none, false, .ldc (.t 4)⟩,
  ⟨some 6, none, false, .len (.t 5)⟩,
  ⟨some 7, none, false, .cmp .gtr (.t 6) (.k (.int .i64 2000))⟩,
  ⟨some 8, none, false, .mv (.t 7)⟩,
  ⟨some 9, some (8, false), false, .fad 0 (.t 1)⟩,
  ⟨some 10, some (8, false), false, .ldc (.t 9)⟩,
  ⟨some 11, some (8, false), false, .len (.t 10)⟩,
  ⟨some 12, some (8, false), false, .fad 1 (.t 1)⟩,
  ⟨some 13, some (8, false), false, .ldc (.t 12)⟩,
  ⟨some 14, some (8, false), false, .len (.t 13)⟩,
  ⟨some 15, some (8, false), false, .ar .sub (.t 14) (.k (.int .i64 1))⟩,
  ⟨some 16, some (8, false), false, .mm false [(.k (.int .i64 0)), (.t 15)]⟩,
  ⟨some 17, some (8, false), false, .cmp .neq (.t 11) (.t 16)⟩,
  ⟨some 18, none, false, .pick (.t 8) (.k (.bool true)) (.t 17)⟩,
  ⟨some 19, none, false, .mv (.t 18)⟩,
  ⟨some 20, some (19, false), false, .fad 1 (.t 1)⟩,
  ⟨some 21, some (19, false), false, .ldc (.t 20)⟩,
  ⟨some 22, some (19, false), false, .len (.t 21)⟩,
  ⟨some 23, some (19, false), false, .cmp .eql (.t 22) (.k (.int .i64 0))⟩,
  ⟨some 24, some (19, false), false, .mv (.t 23)⟩,
  ⟨some 25, some (24, true), false, .fad 3 (.t 1)⟩,
  ⟨some 26, some (24, true), false, .ldc (.t 25)⟩,
  ⟨some 27, some (24, true), false, .cmp .neq (.t 26) (.k (.int .i64 0))⟩,
  ⟨some 28, some (19, false), false, .pick (.t 24) (.t 27) (.k (.bool false))⟩,
  ⟨some 29, none, false, .pick (.t 19) (.k (.bool true)) (.t 28)⟩] (some [1, 29])
def ir28_r2 : IC := .reg [⟨some 2, none, false, .mv (.k (.bool false))⟩] (some [2])
def ir28_1 : IC := .seq ir28_r2 .ret
def ir28_2 : IC := .cond (.t 29) ir28_1 .skip
def ir28_3 : IC := .seq ir28_r1 ir28_2
def ir28_r3 : IC := .reg [⟨some 30, none, false, .lda 4 (.t 1)⟩,
  ⟨some 31, none, false, .call (.f 29) [(.t 30)]⟩,
  ⟨some 3, none, false, .mv (.t 31)⟩] (some [3])
def ir28_r4 : IC := .reg [⟨some 32, none, false, .mv (.t 3)⟩,
  ⟨some 33, none, false, .call (.f 32) [(.t 32), (.f 63)]⟩,
  ⟨some 34, none, false, .not (.t 33)⟩,
  ⟨some 35, none, false, .mv (.t 34)⟩,
  ⟨some 36, some (35, true), false, .mv (.t 3)⟩,
  ⟨some 37, some (35, true), false, .call (.f 30) [(.t 36)]⟩,
  ⟨some 38, some (35, true), false, .call (.f 26) [(.t 37), (.k (.int .i64 1)), (.k (.int .i64 600000000))]⟩,
  ⟨some 39, none, false, .pick (.t 35) (.t 38) (.k (.bool false))⟩,
  ⟨some 2, none, false, .mv (.t 39)⟩] (some [2])
def ir28_4 : IC := .seq ir28_r4 .ret
def ir28_5 : IC := .seq ir28_r3 ir28_4
def ir28_6 : IC := .seq ir28_3 ir28_5
def ir28_7 : IC := .seq ir28_r0 ir28_6
def ir28 : IC := ir28_7
theorem fn28 : FnIs Try.prog 28 ir28 40 [.tmp 2] := ⟨Try.f28, Try.f28.body.getD .skip, Try.func28, by kernel_rfl, by kernel_rfl, by kernel_rfl, by kernel_rfl⟩
/- boule/slice.areParts$1 · slots 6 · names 0:n 1:n · results [2] -/
def ir63_r0 : IC := .reg [⟨some 2, none, false, .mv (.k (.bool false))⟩] (some [0])
def ir63_r1 : IC := .reg [⟨some 3, none, false, .mv (.t 0)⟩,
  ⟨some 4, none, false, .call (.f 26) [(.t 3), (.k (.int .i64 0)), (.k (.int .i64 600000000))]⟩,
  ⟨some 5, none, false, .not (.t 4)⟩,
  ⟨some 2, none, false, .mv (.t 5)⟩] (some [2])
def ir63_1 : IC := .seq ir63_r1 .ret
def ir63_2 : IC := .seq ir63_r0 ir63_1
def ir63 : IC := ir63_2
theorem fn63 : FnIs Try.prog 63 ir63 6 [.tmp 2] := ⟨Try.f63, Try.f63.body.getD .skip, Try.func63, by kernel_rfl, by kernel_rfl, by kernel_rfl, by kernel_rfl⟩
theorem sum_f {n : Nat} {xs : List Int} (hn : xs.length = n) (hb : ∀ k, k ≤ n → 0 ≤ pS xs k ∧ pS xs k ≤ 1000000000000000) (hn1 : n ≤ 1000000) {h : AH} {s : Value} (h0 : h.sees 0 = true) (r : Rd h s n (rows eI xs)) :
    Fc Try.prog 30 [s] h (.int .i64 (pS xs n)) h := by
  refine Fc.lift1 (mk := fun ss => ss ++ []) (mkv := fun _ => .int .i64 (pS xs n)) (os := []) (fun c => ?_) (MkL.app rfl) (MkV.const rfl) (rows_no (f := eI) xs) (fun o ho => by cases ho) h0 r
  refine Fc.intro0 (h := H1 (rows eI xs)) fn30 (by simp) rfl rfl ?_; simp only [argF, List.cons_append, List.nil_append]
  refine ITri.seq ?_
  refine ITri.reg pok ?_; simp -implicitDefEqProofs (disch := first | decide | exact of_eq_true (eq_true rfl) | omega | assumption) only [ ↓vcD, vcE, ↓vcG, vcF, evs, evP, evB, intsOf, fillC, Value.cells, pt, Value.oneCell', reduceIte, reduceCtorEq, Nat.reduceEqDiff, Nat.reduceAdd, Nat.reduceMul, Nat.reduceLT, Nat.reduceBEq, Nat.reduceLeDiff, Nat.reduceSub] -- r0 slice.go:109
  refine ITri.seq ?_
  refine ITri.seq ?_
  refine ITri.reg pok ?_; simp -implicitDefEqProofs (disch := first | decide | exact of_eq_true (eq_true rfl) | omega | assumption) only [ ↓vcD, vcE, ↓vcG, vcF, evs, evP, evB, intsOf, fillC, Value.cells, pt, Value.oneCell', reduceIte, reduceCtorEq, Nat.reduceEqDiff, Nat.reduceAdd, Nat.reduceMul, Nat.reduceLT, Nat.reduceBEq, Nat.reduceLeDiff, Nat.reduceSub] -- r1 slice.go:110
  refine ITri.block ?_ -- 0
  refine ITri.loop (fun k : Nat => [(2, .int .i64 (pS xs k)), (5, s1 n c), (6, .int .i64 n), (7, .int .i64 k)]) (fun _ => []) (fun k => H1 (rows eI xs)) (fun k => k ≤ n) (fun k => n - k) 0 (by omega) (Wk.sub ⟨rfl, rfl, rfl, rfl, trivial⟩) fun k hk => ?_
  refine ITri.seq ?_
  refine ITri.reg pok ?_; simp -implicitDefEqProofs (disch := first | decide | exact of_eq_true (eq_true rfl) | omega | assumption) only [ ↓vcD, vcE, ↓vcG, vcF, evs, evP, evB, intsOf, fillC, Value.cells, pt, Value.oneCell', reduceIte, reduceCtorEq, Nat.reduceEqDiff, Nat.reduceAdd, Nat.reduceMul, Nat.reduceLT, Nat.reduceBEq, Nat.reduceLeDiff, Nat.reduceSub] -- r2 slice.go:110
  refine ITri.seq ?_
  refine ITri.condD (by rfl) (fun h2 => ?_) (fun h2 => ?_) -- %8
  · have hkr : k < xs.length := by omega
    have b1 := hb k hk
    have b2 := hb (k + 1) (by omega)
    have e1 := pS_succ hkr
    have gv := getI hkr
    refine ITri.skip ?_; simp only [SeqQ_normal, BlkQ_normal]
    refine ITri.seq ?_
    refine ITri.block ?_ -- 1
    refine ITri.seq ?_
    refine ITri.reg pok ?_; simp -implicitDefEqProofs (disch := first | decide | exact of_eq_true (eq_true rfl) | omega | assumption) only [gv,  ↓vcD, vcE, ↓vcG, vcF, evs, evP, evB, intsOf, fillC, Value.cells, pt, Value.oneCell', reduceIte, reduceCtorEq, Nat.reduceEqDiff, Nat.reduceAdd, Nat.reduceMul, Nat.reduceLT, Nat.reduceBEq, Nat.reduceLeDiff, Nat.reduceSub] -- r3 slice.go:110
    refine ITri.reg pok ?_; simp -implicitDefEqProofs (disch := first | decide | exact of_eq_true (eq_true rfl) | omega | assumption) only [ ↓vcD, vcE, ↓vcG, vcF, evs, evP, evB, intsOf, fillC, Value.cells, pt, Value.oneCell', reduceIte, reduceCtorEq, Nat.reduceEqDiff, Nat.reduceAdd, Nat.reduceMul, Nat.reduceLT, Nat.reduceBEq, Nat.reduceLeDiff, Nat.reduceSub] -- r4 slice.go:111
    rw [← e1]
    refine ITri.reg pok ?_; simp -implicitDefEqProofs (disch := first | decide | exact of_eq_true (eq_true rfl) | omega | assumption) only [ ↓vcD, vcE, ↓vcG, vcF, evs, evP, evB, intsOf, fillC, Value.cells, pt, Value.oneCell', reduceIte, reduceCtorEq, Nat.reduceEqDiff, Nat.reduceAdd, Nat.reduceMul, Nat.reduceLT, Nat.reduceBEq, Nat.reduceLeDiff, Nat.reduceSub] -- r5 slice.go:110
    exact LoopQ.next (k + 1) (by omega) (by omega) (Wk.sub ⟨rfl, rfl, rfl, rfl, trivial⟩)
  refine ITri.exit ?_; try simp -implicitDefEqProofs (disch := first | decide | exact of_eq_true (eq_true rfl) | omega | assumption) only [ ↓vcD, vcE, ↓vcG, vcF, evs, evP, evB, intsOf, fillC, Value.cells, pt, Value.oneCell', reduceIte, reduceCtorEq, Nat.reduceEqDiff, Nat.reduceAdd, Nat.reduceMul, Nat.reduceLT, Nat.reduceBEq, Nat.reduceLeDiff, Nat.reduceSub]
  obtain rfl : n = k := by omega
  refine ITri.seq ?_
  refine ITri.reg pok ?_; simp -implicitDefEqProofs (disch := first | decide | exact of_eq_true (eq_true rfl) | omega | assumption) only [ ↓vcD, vcE, ↓vcG, vcF, evs, evP, evB, intsOf, fillC, Value.cells, pt, Value.oneCell', reduceIte, reduceCtorEq, Nat.reduceEqDiff, Nat.reduceAdd, Nat.reduceMul, Nat.reduceLT, Nat.reduceBEq, Nat.reduceLeDiff, Nat.reduceSub] -- r6 slice.go:113
  refine ITri.ret ?_; exact EndR.plain (by simp) (by rfl) (by rfl) (by rfl)

/-- Lengths of kerfs and slices, one behind the other. -/
def ivF (K S : List Int) : Nat → List Int
  | 0 => []
  | i + 1 => ivF K S i ++ (nth K i :: (S.drop i).take 1)
theorem ivF_len {K S : List Int} : ∀ i, (ivF K S i).length = i + min i S.length
  | 0 => by simp [ivF]
  | i + 1 => by
    rw [ivF, List.length_append, ivF_len i, List.length_cons, List.length_take, List.length_drop]
    omega
theorem ivF_at {K S : List Int} {i : Nat} (h : i < S.length) : ivF K S (i + 1) = ivF K S i ++ [nth K i] ++ [nth S i] := by
  rw [ivF, List.drop_eq_getElem_cons h, List.take_succ_cons, List.take_zero, List.append_assoc, (List.getElem?_eq_some_iff.1 (get_nth h)).2]
  rfl
theorem ivF_end {K S : List Int} {i : Nat} (h : S.length ≤ i) : ivF K S (i + 1) = ivF K S i ++ [nth K i] := by
  rw [ivF, List.drop_eq_nil_of_le h, List.take_nil]
def lnF (t : Int) (K S : List Int) (i : Nat) : List Int := t :: ivF K S i
def lensF (t b : Int) (K S : List Int) : List Int := lnF t K S K.length ++ [b]
abbrev sO (a n : Nat) : Value := .slice (some ⟨a, 0, none⟩) n openB
abbrev ptV (a b s k : Nat) (t u : Int) : Value := .agg #[sO a s, sO b k, .int .i64 t, .int .i64 u]
abbrev PM (S K : List Int) : List (Option AObj) := [none, some (.cells ⟨rows eI S, 0, false⟩), some (.cells ⟨rows eI K, 0, false⟩)]
theorem u_slI : Try.prog.underlying 33 = some (.slice 3) := by kernel_rfl
theorem i_I : Try.prog.info? 3 = some ((Try.prog.info? 3).get rfl) := by kernel_rfl
theorem sz_I : ((Try.prog.info? 3).get rfl).size = 1 := by kernel_rfl
theorem lengths_c (K S : List Int) (t u : Int) (k s : Nat) (hk : K.length = k) (hs : S.length = s) (hk1 : k ≤ 2000) (hs1 : s ≤ 2000) :
    Fc Try.prog 29 [ptV 1 2 s k t u] (Hp 3 (PM S K)) (sO 3 (lensF t u K S).length) ((Hp 3 (PM S K)).news [.cells ⟨rows eI (lensF t u K S), 1, true⟩]) := by
  have z1 : rows eI (lnF t K S 0) = [.int .i64 t] := rfl
  have z2 : (lnF t K S 0).length = 1 := rfl
  refine Fc.introR fn29 (by simp) rfl rfl ?_; simp only [argF]
  refine ITri.seq ?_
  refine ITri.reg pok ?_; simp -implicitDefEqProofs (disch := first | decide | exact of_eq_true (eq_true rfl) | omega | assumption) only [ ↓vcD, vcE, ↓vcG, vcF, evs, evP, evB, intsOf, fillC, Value.cells, pt, Value.oneCell', reduceIte, reduceCtorEq, Nat.reduceEqDiff, Nat.reduceAdd, Nat.reduceMul, Nat.reduceLT, Nat.reduceBEq, Nat.reduceLeDiff, Nat.reduceSub] -- r0 parts.go:13
  refine ITri.seq ?_
  refine ITri.reg pok ?_; simp -implicitDefEqProofs (disch := first | decide | exact of_eq_true (eq_true rfl) | omega | assumption) only [ ↓vcD, vcE, ↓vcG, vcF, evs, evP, evB, intsOf, fillC, Value.cells, pt, Value.oneCell', reduceIte, reduceCtorEq, Nat.reduceEqDiff, Nat.reduceAdd, Nat.reduceMul, Nat.reduceLT, Nat.reduceBEq, Nat.reduceLeDiff, Nat.reduceSub] -- r1 parts.go:14
  refine ITri.seq ?_
  refine ITri.seq ?_
  refine ITri.reg pok ?_; simp -implicitDefEqProofs (disch := first | decide | exact of_eq_true (eq_true rfl) | omega | assumption) only [ ↓vcD, vcE, ↓vcG, vcF, evs, evP, evB, intsOf, fillC, Value.cells, pt, Value.oneCell', reduceIte, reduceCtorEq, Nat.reduceEqDiff, Nat.reduceAdd, Nat.reduceMul, Nat.reduceLT, Nat.reduceBEq, Nat.reduceLeDiff, Nat.reduceSub] -- r2 parts.go:15
  refine ITri.block ?_ -- 0
  refine ITri.loop (fun i : Nat => [(1, pt 3), (3, sO 4 (lnF t K S i).length), (10, sO 2 k), (11, .int .i64 k), (12, .int .i64 i)]) (fun _ => []) (fun i => Hp 3 (PM S K ++ [some (.cells ⟨[sO 1 s, sO 2 k, .int .i64 t, .int .i64 u], 1, false⟩), some (.cells ⟨rows eI (lnF t K S i), 1, true⟩)])) (fun i => i ≤ k) (fun i => k - i) 0 (by omega) (Wk.gc [0, 1, 2, 3, 4] [(4, .room 1)] (of_decide_eq_true rfl) (of_decide_eq_true rfl) rfl rfl (of_decide_eq_true rfl) rfl rfl (by repeat (first | exact xiOK_nil | refine xiOK_cons (by first | trivial | exact roomOK _ (by decide)) ?_)) rfl (by simp -implicitDefEqProofs (disch := first | decide | exact of_eq_true (eq_true rfl) | omega | assumption) only [z1, z2, objOK, sgL, xiL, objAt, nilO, OM, mvL, mv, mvS, okS, okP, mvL_rows, okML, okM, okML_rows, List.getElem?_cons_zero, Option.getD_some, implies_true, imp_self, ne_eq, and_self, true_or, or_true, Nat.zero_mul, Nat.sub_self, openB_self, ↓vcD, vcE, ↓vcG, vcF, evs, evP, evB, intsOf, fillC, Value.cells, pt, Value.oneCell', reduceIte, reduceCtorEq, Nat.reduceEqDiff, Nat.reduceAdd, Nat.reduceMul, Nat.reduceLT, Nat.reduceBEq, Nat.reduceLeDiff, Nat.reduceSub]) (by simp -implicitDefEqProofs (disch := first | decide | exact of_eq_true (eq_true rfl) | omega | assumption) only [z1, z2, valOK, sgL, xiL, mv, mvA, mvL, mvS, okS, okP, okM, okMA, okML, Option.getD_some, implies_true, and_self, true_or, or_true, Int.natCast_add, Int.cast_ofNat_Int, Nat.zero_mul, Nat.sub_self, openB_self, ↓vcD, vcE, ↓vcG, vcF, evs, evP, evB, intsOf, fillC, Value.cells, pt, Value.oneCell', reduceIte, reduceCtorEq, Nat.reduceEqDiff, Nat.reduceAdd, Nat.reduceMul, Nat.reduceLT, Nat.reduceBEq, Nat.reduceLeDiff, Nat.reduceSub]) (fun _ h => by cases h) ⟨rfl, fun _ h => by cases h⟩) fun i hi => ?_
  have hlen : (lnF t K S i).length = 1 + (i + min i S.length) := by unfold lnF; rw [List.length_cons, ivF_len]; omega
  have hlr : (rows eI (lnF t K S i)).length = (lnF t K S i).length * 1 := by rw [rows_len]
  have hi1 : ((i : Int) + 1) = ((i + 1 : Nat) : Int) := by omega
  refine ITri.seq ?_
  refine ITri.reg pok ?_; simp -implicitDefEqProofs (disch := first | decide | exact of_eq_true (eq_true rfl) | omega | assumption) only [ ↓vcD, vcE, ↓vcG, vcF, evs, evP, evB, intsOf, fillC, Value.cells, pt, Value.oneCell', reduceIte, reduceCtorEq, Nat.reduceEqDiff, Nat.reduceAdd, Nat.reduceMul, Nat.reduceLT, Nat.reduceBEq, Nat.reduceLeDiff, Nat.reduceSub] -- r3 parts.go:15
  refine ITri.seq ?_
  refine ITri.condD (by rfl) (fun h2 => ?_) (fun h2 => ?_) -- %13
  · have hkr : i < K.length := by omega
    have gv := getI hkr
    refine ITri.skip ?_; simp only [SeqQ_normal, BlkQ_normal]
    refine ITri.seq ?_
    refine ITri.block ?_ -- 1
    refine ITri.seq ?_
    refine ITri.reg pok ?_; simp -implicitDefEqProofs (disch := first | decide | exact of_eq_true (eq_true rfl) | omega | assumption) only [gv,  ↓vcD, vcE, ↓vcG, vcF, evs, evP, evB, intsOf, fillC, Value.cells, pt, Value.oneCell', reduceIte, reduceCtorEq, Nat.reduceEqDiff, Nat.reduceAdd, Nat.reduceMul, Nat.reduceLT, Nat.reduceBEq, Nat.reduceLeDiff, Nat.reduceSub] -- r4 parts.go:15
    refine ITri.seq ?_
    refine ITri.reg pok ?_; simp -implicitDefEqProofs (disch := first | decide | exact of_eq_true (eq_true rfl) | omega | assumption) only [hlr,  ↓vcD, vcE, ↓vcG, vcF, evs, evP, evB, intsOf, fillC, Value.cells, pt, Value.oneCell', reduceIte, reduceCtorEq, Nat.reduceEqDiff, Nat.reduceAdd, Nat.reduceMul, Nat.reduceLT, Nat.reduceBEq, Nat.reduceLeDiff, Nat.reduceSub] -- r5 parts.go:16
    have hlr2 : (rows eI (lnF t K S i) ++ [Value.int .i64 (nth K i)]).length = ((lnF t K S i).length + 1) * 1 := by
      rw [List.length_append, hlr]
      simp
    by_cases his : i < s
    · have hsr : i < S.length := by omega
      have m1 : min (i : Int) s = i := by omega
      have m2 : min ((i : Int) + 1) s = i + 1 := by omega
      have tv : takeC (rows eI S) i 1 = some [.int .i64 (nth S i)] := rows_takeC1 (f := eI) hsr
      have r1 : rows eI (lnF t K S i) ++ [Value.int .i64 (nth K i)] ++ [Value.int .i64 (nth S i)] = rows eI (lnF t K S (i + 1)) := by
        unfold lnF
        rw [ivF_at hsr, ← List.cons_append, ← List.cons_append, rows_append, rows_append]
        rfl
      have r2 : (lnF t K S i).length + 1 + 1 = (lnF t K S (i + 1)).length := by
        unfold lnF
        rw [ivF_at hsr]
        simp
      refine ITri.reg pok ?_; simp -implicitDefEqProofs (disch := first | decide | exact of_eq_true (eq_true rfl) | omega | assumption) only [m1, m2,  ↓vcD, vcE, ↓vcG, vcF, evs, evP, evB, intsOf, fillC, Value.cells, pt, Value.oneCell', reduceIte, reduceCtorEq, Nat.reduceEqDiff, Nat.reduceAdd, Nat.reduceMul, Nat.reduceLT, Nat.reduceBEq, Nat.reduceLeDiff, Nat.reduceSub]
      refine gen_mid (i := i) (m := 1) u_slI i_I sz_I rfl rfl rfl rfl rfl (by omega) (.inl (by omega)) ?_
      simp -implicitDefEqProofs (disch := first | decide | exact of_eq_true (eq_true rfl) | omega | assumption) only [hlr2, tv, Nat.mul_one,  ↓vcD, vcE, ↓vcG, vcF, evs, evP, evB, intsOf, fillC, Value.cells, pt, Value.oneCell', reduceIte, reduceCtorEq, Nat.reduceEqDiff, Nat.reduceAdd, Nat.reduceMul, Nat.reduceLT, Nat.reduceBEq, Nat.reduceLeDiff, Nat.reduceSub]
      rw [r1, r2]
      refine ITri.reg pok ?_; simp -implicitDefEqProofs (disch := first | decide | exact of_eq_true (eq_true rfl) | omega | assumption) only [hi1,  ↓vcD, vcE, ↓vcG, vcF, evs, evP, evB, intsOf, fillC, Value.cells, pt, Value.oneCell', reduceIte, reduceCtorEq, Nat.reduceEqDiff, Nat.reduceAdd, Nat.reduceMul, Nat.reduceLT, Nat.reduceBEq, Nat.reduceLeDiff, Nat.reduceSub] -- r7
      exact LoopQ.next (i + 1) (by omega) (by omega) (Wk.gc [0, 1, 2, 3, 7] [] (of_decide_eq_true rfl) (of_decide_eq_true rfl) rfl rfl (of_decide_eq_true rfl) rfl rfl (fun _ h => by cases h) rfl (by simp -implicitDefEqProofs (disch := first | decide | exact of_eq_true (eq_true rfl) | omega | assumption) only [objOK, sgL, xiL, objAt, nilO, OM, mvL, mv, mvS, okS, okP, mvL_rows, okML, okM, okML_rows, List.getElem?_cons_zero, Option.getD_some, implies_true, imp_self, ne_eq, and_self, ↓vcD, vcE, ↓vcG, vcF, evs, evP, evB, intsOf, fillC, Value.cells, pt, Value.oneCell', reduceIte, reduceCtorEq, Nat.reduceEqDiff, Nat.reduceAdd, Nat.reduceMul, Nat.reduceLT, Nat.reduceBEq, Nat.reduceLeDiff, Nat.reduceSub]) (by simp -implicitDefEqProofs (disch := first | decide | exact of_eq_true (eq_true rfl) | omega | assumption) only [ valOK, sgL, xiL, mv, mvA, mvL, mvS, okS, okP, okM, okMA, okML, Option.getD_some, implies_true, and_self, Int.natCast_add, Int.cast_ofNat_Int, ↓vcD, vcE, ↓vcG, vcF, evs, evP, evB, intsOf, fillC, Value.cells, pt, Value.oneCell', reduceIte, reduceCtorEq, Nat.reduceEqDiff, Nat.reduceAdd, Nat.reduceMul, Nat.reduceLT, Nat.reduceBEq, Nat.reduceLeDiff, Nat.reduceSub]) (fun _ h => by cases h) ⟨rfl, fun _ h => by cases h⟩)
    have hsr : S.length ≤ i := by omega
    have m1 : min (i : Int) s = s := by omega
    have m2 : min ((i : Int) + 1) s = s := by omega
    have r1 : rows eI (lnF t K S i) ++ [Value.int .i64 (nth K i)] = rows eI (lnF t K S (i + 1)) := by
      unfold lnF
      rw [ivF_end hsr, ← List.cons_append, rows_append]
      rfl
    have r2 : (lnF t K S i).length + 1 = (lnF t K S (i + 1)).length := by
      unfold lnF
      rw [ivF_end hsr]
      simp
    refine ITri.reg pok ?_; simp -implicitDefEqProofs (disch := first | decide | exact of_eq_true (eq_true rfl) | omega | assumption) only [m1, m2,  ↓vcD, vcE, ↓vcG, vcF, evs, evP, evB, intsOf, fillC, Value.cells, pt, Value.oneCell', reduceIte, reduceCtorEq, Nat.reduceEqDiff, Nat.reduceAdd, Nat.reduceMul, Nat.reduceLT, Nat.reduceBEq, Nat.reduceLeDiff, Nat.reduceSub]
    by_cases hs0 : s = 0
    · refine gen_mid (i := s) (m := 0) u_slI i_I sz_I rfl rfl rfl rfl (by omega) (by omega) (.inr hs0) ?_
      simp -implicitDefEqProofs (disch := first | decide | exact of_eq_true (eq_true rfl) | omega | assumption) only [appK_zo,  ↓vcD, vcE, ↓vcG, vcF, evs, evP, evB, intsOf, fillC, Value.cells, pt, Value.oneCell', reduceIte, reduceCtorEq, Nat.reduceEqDiff, Nat.reduceAdd, Nat.reduceMul, Nat.reduceLT, Nat.reduceBEq, Nat.reduceLeDiff, Nat.reduceSub]
      rw [r1, r2]
      refine ITri.reg pok ?_; simp -implicitDefEqProofs (disch := first | decide | exact of_eq_true (eq_true rfl) | omega | assumption) only [hi1,  ↓vcD, vcE, ↓vcG, vcF, evs, evP, evB, intsOf, fillC, Value.cells, pt, Value.oneCell', reduceIte, reduceCtorEq, Nat.reduceEqDiff, Nat.reduceAdd, Nat.reduceMul, Nat.reduceLT, Nat.reduceBEq, Nat.reduceLeDiff, Nat.reduceSub] -- r7
      exact LoopQ.next (i + 1) (by omega) (by omega) (Wk.gc [0, 1, 2, 3, 6] [] (of_decide_eq_true rfl) (of_decide_eq_true rfl) rfl rfl (of_decide_eq_true rfl) rfl rfl (fun _ h => by cases h) rfl (by simp -implicitDefEqProofs (disch := first | decide | exact of_eq_true (eq_true rfl) | omega | assumption) only [objOK, sgL, xiL, objAt, nilO, OM, mvL, mv, mvS, okS, okP, mvL_rows, okML, okM, okML_rows, List.getElem?_cons_zero, Option.getD_some, implies_true, imp_self, ne_eq, and_self, ↓vcD, vcE, ↓vcG, vcF, evs, evP, evB, intsOf, fillC, Value.cells, pt, Value.oneCell', reduceIte, reduceCtorEq, Nat.reduceEqDiff, Nat.reduceAdd, Nat.reduceMul, Nat.reduceLT, Nat.reduceBEq, Nat.reduceLeDiff, Nat.reduceSub]) (by simp -implicitDefEqProofs (disch := first | decide | exact of_eq_true (eq_true rfl) | omega | assumption) only [ valOK, sgL, xiL, mv, mvA, mvL, mvS, okS, okP, okM, okMA, okML, Option.getD_some, implies_true, and_self, Int.natCast_add, Int.cast_ofNat_Int, ↓vcD, vcE, ↓vcG, vcF, evs, evP, evB, intsOf, fillC, Value.cells, pt, Value.oneCell', reduceIte, reduceCtorEq, Nat.reduceEqDiff, Nat.reduceAdd, Nat.reduceMul, Nat.reduceLT, Nat.reduceBEq, Nat.reduceLeDiff, Nat.reduceSub]) (fun _ h => by cases h) ⟨rfl, fun _ h => by cases h⟩)
    · refine gen_mid0 (i := s) u_slI i_I rfl rfl rfl rfl rfl (by omega) hs0 ?_
      simp -implicitDefEqProofs (disch := first | decide | exact of_eq_true (eq_true rfl) | omega | assumption) only [appK_zo, Hq_bump,  ↓vcD, vcE, ↓vcG, vcF, evs, evP, evB, intsOf, fillC, Value.cells, pt, Value.oneCell', reduceIte, reduceCtorEq, Nat.reduceEqDiff, Nat.reduceAdd, Nat.reduceMul, Nat.reduceLT, Nat.reduceBEq, Nat.reduceLeDiff, Nat.reduceSub]
      rw [r1, r2]
      refine ITri.reg pok ?_; simp -implicitDefEqProofs (disch := first | decide | exact of_eq_true (eq_true rfl) | omega | assumption) only [hi1,  ↓vcD, vcE, ↓vcG, vcF, evs, evP, evB, intsOf, fillC, Value.cells, pt, Value.oneCell', reduceIte, reduceCtorEq, Nat.reduceEqDiff, Nat.reduceAdd, Nat.reduceMul, Nat.reduceLT, Nat.reduceBEq, Nat.reduceLeDiff, Nat.reduceSub] -- r7
      exact LoopQ.next (i + 1) (by omega) (by omega) (Wk.gc [0, 1, 2, 3, 6] [] (of_decide_eq_true rfl) (of_decide_eq_true rfl) rfl rfl (of_decide_eq_true rfl) rfl rfl (fun _ h => by cases h) rfl (by simp -implicitDefEqProofs (disch := first | decide | exact of_eq_true (eq_true rfl) | omega | assumption) only [objOK, sgL, xiL, objAt, nilO, OM, mvL, mv, mvS, okS, okP, mvL_rows, okML, okM, okML_rows, List.getElem?_cons_zero, Option.getD_some, implies_true, imp_self, ne_eq, and_self, ↓vcD, vcE, ↓vcG, vcF, evs, evP, evB, intsOf, fillC, Value.cells, pt, Value.oneCell', reduceIte, reduceCtorEq, Nat.reduceEqDiff, Nat.reduceAdd, Nat.reduceMul, Nat.reduceLT, Nat.reduceBEq, Nat.reduceLeDiff, Nat.reduceSub]) (by simp -implicitDefEqProofs (disch := first | decide | exact of_eq_true (eq_true rfl) | omega | assumption) only [ valOK, sgL, xiL, mv, mvA, mvL, mvS, okS, okP, okM, okMA, okML, Option.getD_some, implies_true, and_self, Int.natCast_add, Int.cast_ofNat_Int, ↓vcD, vcE, ↓vcG, vcF, evs, evP, evB, intsOf, fillC, Value.cells, pt, Value.oneCell', reduceIte, reduceCtorEq, Nat.reduceEqDiff, Nat.reduceAdd, Nat.reduceMul, Nat.reduceLT, Nat.reduceBEq, Nat.reduceLeDiff, Nat.reduceSub]) (fun _ h => by cases h) ⟨rfl, fun _ h => by cases h⟩)
  refine ITri.exit ?_; try simp -implicitDefEqProofs (disch := first | decide | exact of_eq_true (eq_true rfl) | omega | assumption) only [ ↓vcD, vcE, ↓vcG, vcF, evs, evP, evB, intsOf, fillC, Value.cells, pt, Value.oneCell', reduceIte, reduceCtorEq, Nat.reduceEqDiff, Nat.reduceAdd, Nat.reduceMul, Nat.reduceLT, Nat.reduceBEq, Nat.reduceLeDiff, Nat.reduceSub]
  obtain rfl : k = i := by omega
  refine ITri.seq ?_
  refine ITri.reg pok ?_; simp -implicitDefEqProofs (disch := first | decide | exact of_eq_true (eq_true rfl) | omega | assumption) only [hlr,  ↓vcD, vcE, ↓vcG, vcF, evs, evP, evB, intsOf, fillC, Value.cells, pt, Value.oneCell', reduceIte, reduceCtorEq, Nat.reduceEqDiff, Nat.reduceAdd, Nat.reduceMul, Nat.reduceLT, Nat.reduceBEq, Nat.reduceLeDiff, Nat.reduceSub] -- r8 parts.go:19
  have r1 : rows eI (lnF t K S k) ++ [Value.int .i64 u] = rows eI (lensF t u K S) := by
    unfold lensF
    rw [hk, rows_append]
    rfl
  have r2 : (lnF t K S k).length + 1 = (lensF t u K S).length := by
    unfold lensF
    rw [hk]
    simp
  rw [r1, r2]
  refine ITri.ret ?_
  exact end_own (k := 6) (by decide) (rows_no (f := eI) _) rfl rfl
theorem lengths_f {K S : List Int} {t u : Int} {k s : Nat} (hk : K.length = k) (hs : S.length = s) (hk1 : k ≤ 2000) (hs1 : s ≤ 2000) {h : AH} {a b za zb : Nat} {oa ob : Bool} (h0 : h.sees 0 = true) (ha : h.get a = some (.cells ⟨rows eI S, za, oa⟩)) (hb : h.get b = some (.cells ⟨rows eI K, zb, ob⟩)) :
    Fc Try.prog 29 [ptV a b s k t u] h (sO h.next (lensF t u K S).length) (h.new (.cells ⟨rows eI (lensF t u K S), 1, true⟩)) :=
  Fc.lift2o (mk := fun ss => .agg ⟨ss ++ [.int .i64 t, .int .i64 u]⟩ :: []) (mkv := fun ss => ss.headD undef) (os := [((lensF t u K S).length, rows eI (lensF t u K S), 1)]) (by
    have := lengths_c K S t u k s hk hs hk1 hs1
    rw [Hq_news] at this
    exact this) (MkL.agg1 (MkL.app rfl) rfl) MkV.one (rows_no (f := eI) S) (rows_no (f := eI) K) (fun o ho => by simp at ho; subst ho; exact rows_no (f := eI) _) h0 ha hb

theorem far_f (x : Int) (h : AH) (h0 : h.sees 0 = true) : Fc Try.prog 63 [.int .i64 x] h (.bool (!inB x 0 600000000)) h := by
  refine Fc.lift0 ?_ rfl rfl h0
  refine Fc.intro0 fn63 (by simp) rfl rfl ?_; simp only [argF]
  refine ITri.seq ?_
  refine ITri.reg pok ?_; simp -implicitDefEqProofs (disch := first | decide | exact of_eq_true (eq_true rfl) | omega | assumption) only [ ↓vcD, vcE, ↓vcG, vcF, evs, evP, evB, intsOf, fillC, Value.cells, pt, Value.oneCell', reduceIte, reduceCtorEq, Nat.reduceEqDiff, Nat.reduceAdd, Nat.reduceMul, Nat.reduceLT, Nat.reduceBEq, Nat.reduceLeDiff, Nat.reduceSub]
  refine ITri.seq ?_
  refine ITri.reg pok ?_; simp -implicitDefEqProofs (disch := first | decide | exact of_eq_true (eq_true rfl) | omega | assumption) only [ ↓vcD, vcE, ↓vcG, vcF, evs, evP, evB, intsOf, fillC, Value.cells, pt, Value.oneCell', reduceIte, reduceCtorEq, Nat.reduceEqDiff, Nat.reduceAdd, Nat.reduceMul, Nat.reduceLT, Nat.reduceBEq, Nat.reduceLeDiff, Nat.reduceSub]
  refine ⟨_, _, within_f _ _ _ (sees0 rfl (of_decide_eq_true rfl)), ?_⟩
  try simp -implicitDefEqProofs (disch := first | decide | exact of_eq_true (eq_true rfl) | omega | assumption) only [ ↓vcD, vcE, ↓vcG, vcF, evs, evP, evB, intsOf, fillC, Value.cells, pt, Value.oneCell', reduceIte, reduceCtorEq, Nat.reduceEqDiff, Nat.reduceAdd, Nat.reduceMul, Nat.reduceLT, Nat.reduceBEq, Nat.reduceLeDiff, Nat.reduceSub]
  refine ITri.ret ?_; exact EndR.plain (by simp) (by rfl) (by rfl) (by rfl)
/-- Parts of a block. -/
structure PV (S K : List Int) (t u : Int) : Prop where
  k2 : K.length ≤ 2000
  s : S.length = K.length - 1
  z : K.length = 0 → u = 0
  all : ∀ x ∈ lensF t u K S, 0 ≤ x ∧ x ≤ 600000000
  sum : 1 ≤ pS (lensF t u K S) (lensF t u K S).length ∧ pS (lensF t u K S) (lensF t u K S).length ≤ 600000000
theorem lens_len (t u : Int) (K S : List Int) : (lensF t u K S).length = 2 + (K.length + min K.length S.length) := by
  unfold lensF lnF
  rw [List.length_append, List.length_cons, ivF_len]
  simp
  omega
theorem PV.ps {S K : List Int} {t u : Int} (V : PV S K t u) : ∀ k, k ≤ (lensF t u K S).length → 0 ≤ pS (lensF t u K S) k ∧ pS (lensF t u K S) k ≤ 1000000000000000 := by
  intro k hk
  have := pS_le V.all (by omega) k hk
  have h2 := lens_len t u K S
  have := V.k2
  have : k ≤ 6000 := by omega
  omega
theorem areParts_c (K S : List Int) (t u : Int) (k s : Nat) (hk : K.length = k) (hs : S.length = s) (V : PV S K t u) :
    Fc Try.prog 28 [ptV 1 2 s k t u] (Hp 3 (PM S K)) (.bool true) (Hp 3 (PM S K)) := by
  have v1 := V.k2
  have v2 := V.s
  have v3 := V.z
  have v4 := lens_len t u K S
  have hsum := V.sum
  have hw : inB (pS (lensF t u K S) (lensF t u K S).length) 1 600000000 = true := by
    unfold inB
    rw [decide_eq_true (by omega), decide_eq_true (by omega)]
    rfl
  have hany : (lensF t u K S).any (fun x => !inB x 0 600000000) = false := by
    rw [List.any_eq_false]
    intro x hx
    have := V.all x hx
    unfold inB
    rw [decide_eq_true (by omega), decide_eq_true (by omega)]
    simp
  have g1 : ¬ (2000 : Int) < k := by omega
  have g2 : max (0 : Int) ((k : Int) - 1) = s := by omega
  refine Fc.intro0 fn28 (by simp) rfl rfl ?_; simp only [argF]
  refine ITri.seq ?_
  refine ITri.reg pok ?_; simp -implicitDefEqProofs (disch := first | decide | exact of_eq_true (eq_true rfl) | omega | assumption) only [ ↓vcD, vcE, ↓vcG, vcF, evs, evP, evB, intsOf, fillC, Value.cells, pt, Value.oneCell', reduceIte, reduceCtorEq, Nat.reduceEqDiff, Nat.reduceAdd, Nat.reduceMul, Nat.reduceLT, Nat.reduceBEq, Nat.reduceLeDiff, Nat.reduceSub] -- r0 parts.go:23
  refine ITri.seq ?_
  refine ITri.seq ?_
  refine ITri.one (P := Try.prog) [(1, pt 3), (29, .bool false)] ?_ ?_
  · by_cases hk0 : k = 0
    · have hu : u = 0 := v3 (by omega)
      have g3 : (k : Int) = 0 := by omega
      have g4 : ¬ (2000 : Int) < 0 := by omega
      have g5 : (s : Int) = max 0 (0 - 1) := by omega
      refine ITri.reg pok ?_; simp -implicitDefEqProofs (disch := first | decide | exact of_eq_true (eq_true rfl) | omega | assumption) only [g3, g4, g5, hu, decide_true, decide_false,  ↓vcD, vcE, ↓vcG, vcF, evs, evP, evB, intsOf, fillC, Value.cells, pt, Value.oneCell', reduceIte, reduceCtorEq, Nat.reduceEqDiff, Nat.reduceAdd, Nat.reduceMul, Nat.reduceLT, Nat.reduceBEq, Nat.reduceLeDiff, Nat.reduceSub]
    · have g3 : ¬ (k : Int) = 0 := by omega
      refine ITri.reg pok ?_; simp -implicitDefEqProofs (disch := first | decide | exact of_eq_true (eq_true rfl) | omega | assumption) only [g1, g2, g3, decide_true, decide_false,  ↓vcD, vcE, ↓vcG, vcF, evs, evP, evB, intsOf, fillC, Value.cells, pt, Value.oneCell', reduceIte, reduceCtorEq, Nat.reduceEqDiff, Nat.reduceAdd, Nat.reduceMul, Nat.reduceLT, Nat.reduceBEq, Nat.reduceLeDiff, Nat.reduceSub]
  refine ITri.cond (v := false) rfl (fun h => by cases h) (fun _ => ?_); refine ITri.skip ?_; simp only [SeqQ_normal, BlkQ_normal]
  refine ITri.seq ?_
  refine ITri.reg pok ?_; simp -implicitDefEqProofs (disch := first | decide | exact of_eq_true (eq_true rfl) | omega | assumption) only [ ↓vcD, vcE, ↓vcG, vcF, evs, evP, evB, intsOf, fillC, Value.cells, pt, Value.oneCell', reduceIte, reduceCtorEq, Nat.reduceEqDiff, Nat.reduceAdd, Nat.reduceMul, Nat.reduceLT, Nat.reduceBEq, Nat.reduceLeDiff, Nat.reduceSub] -- r3 parts.go:27 CALLS .call F29 [%30]
  refine ⟨_, _, lengths_f hk hs (by omega) (by omega) (sees0 rfl (of_decide_eq_true rfl)) (get_hq rfl rfl) (get_hq rfl rfl), ?_⟩
  try simp -implicitDefEqProofs (disch := first | decide | exact of_eq_true (eq_true rfl) | omega | assumption) only [ ↓vcD, vcE, ↓vcG, vcF, evs, evP, evB, intsOf, fillC, Value.cells, pt, Value.oneCell', reduceIte, reduceCtorEq, Nat.reduceEqDiff, Nat.reduceAdd, Nat.reduceMul, Nat.reduceLT, Nat.reduceBEq, Nat.reduceLeDiff, Nat.reduceSub]
  refine ITri.seq ?_
  refine ITri.reg pok ?_; simp -implicitDefEqProofs (disch := first | decide | exact of_eq_true (eq_true rfl) | omega | assumption) only [ ↓vcD, vcE, ↓vcG, vcF, evs, evP, evB, intsOf, fillC, Value.cells, pt, Value.oneCell', reduceIte, reduceCtorEq, Nat.reduceEqDiff, Nat.reduceAdd, Nat.reduceMul, Nat.reduceLT, Nat.reduceBEq, Nat.reduceLeDiff, Nat.reduceSub] -- r4 parts.go:28 CALLS .call F32 [%32, F63] .call F30 [%36] .call F26 [%37, 1, 600000000] GUARDS [35] live [2]
  refine ⟨_, _, containsI_f 63 _ far_f _ (lensF t u K S) rfl (by omega) (sees0 rfl (of_decide_eq_true rfl)) (Rd.hq rfl rfl), ?_⟩
  simp -implicitDefEqProofs (disch := first | decide | exact of_eq_true (eq_true rfl) | omega | assumption) only [hany,  ↓vcD, vcE, ↓vcG, vcF, evs, evP, evB, intsOf, fillC, Value.cells, pt, Value.oneCell', reduceIte, reduceCtorEq, Nat.reduceEqDiff, Nat.reduceAdd, Nat.reduceMul, Nat.reduceLT, Nat.reduceBEq, Nat.reduceLeDiff, Nat.reduceSub]
  refine ⟨_, _, sum_f rfl V.ps (by omega) (sees0 rfl (of_decide_eq_true rfl)) (Rd.hq rfl rfl), ?_⟩
  try simp -implicitDefEqProofs (disch := first | decide | exact of_eq_true (eq_true rfl) | omega | assumption) only [ ↓vcD, vcE, ↓vcG, vcF, evs, evP, evB, intsOf, fillC, Value.cells, pt, Value.oneCell', reduceIte, reduceCtorEq, Nat.reduceEqDiff, Nat.reduceAdd, Nat.reduceMul, Nat.reduceLT, Nat.reduceBEq, Nat.reduceLeDiff, Nat.reduceSub]
  refine ⟨_, _, within_f _ _ _ (sees0 rfl (of_decide_eq_true rfl)), ?_⟩
  simp -implicitDefEqProofs (disch := first | decide | exact of_eq_true (eq_true rfl) | omega | assumption) only [hw,  ↓vcD, vcE, ↓vcG, vcF, evs, evP, evB, intsOf, fillC, Value.cells, pt, Value.oneCell', reduceIte, reduceCtorEq, Nat.reduceEqDiff, Nat.reduceAdd, Nat.reduceMul, Nat.reduceLT, Nat.reduceBEq, Nat.reduceLeDiff, Nat.reduceSub]
  refine ITri.ret ?_; exact EndR.plain (by simp) (by rfl) (by rfl) (by rfl)
theorem areParts_f {K S : List Int} {t u : Int} {k s : Nat} (hk : K.length = k) (hs : S.length = s) (V : PV S K t u) {h : AH} {a b za zb : Nat} {oa ob : Bool} (h0 : h.sees 0 = true) (ha : h.get a = some (.cells ⟨rows eI S, za, oa⟩)) (hb : h.get b = some (.cells ⟨rows eI K, zb, ob⟩)) :
    Fc Try.prog 28 [ptV a b s k t u] h (.bool true) h :=
  Fc.lift2o (mk := fun ss => .agg ⟨ss ++ [.int .i64 t, .int .i64 u]⟩ :: []) (mkv := fun _ => .bool true) (os := []) (by
    have := areParts_c K S t u k s hk hs V
    exact this) (MkL.agg1 (MkL.app rfl) rfl) (MkV.const rfl) (rows_no (f := eI) S) (rows_no (f := eI) K) (fun o ho => by cases ho) h0 ha hb
end Go.Proofs.Ytlhhkmkclmedgaa
