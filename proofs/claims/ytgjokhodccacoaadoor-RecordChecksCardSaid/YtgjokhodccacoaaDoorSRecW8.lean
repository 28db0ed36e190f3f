/-
  Chapter 6: record.Put, and the reference's, by names.
-/
import Derived.Test.YtgjokhodccacoaaDoorSRecW7
import Derived.Test.YtgjokhodccacoaaDoorSRecP3
set_option linter.unusedSimpArgs false
set_option linter.unusedVariables false
namespace Go.Proofs.YtgjokhodccacoaaDoor
open Go.RowKit Go.Vm
set_option maxRecDepth 100000
/-- The error of writing a frame; its bytes. -/
def putE (kind : Int) (n : Nat) : Int := if kind < 1 ∨ 250 < kind then 3 else if 10000 < n then 5 else 0
def putX (kind : Int) (xs : List Int) : List Int := if putE kind xs.length = 0 then frB kind.toNat xs else []
abbrev frV (kind : Int) (s : Value) : Value := .agg #[.int .i64 kind, s]
theorem mkF (kind : Int) : MkL fun ss => [.agg ⟨[Value.int .i64 kind] ++ ss ++ []⟩] := MkL.agg1 (MkL.mid rfl rfl) rfl
/- boule/record.Put · slots 26 · names 0:f 1:f 4:w · results [2, 3] -/
def ir22_r0 : IC := .reg [⟨some 1, none, false, .box (.t 0)⟩,
  ⟨some 2, none, false, .mv (.k (.slice none 0 0))⟩,
  ⟨some 3, none, false, .mv (.k (.int .i64 0))⟩] (some [1])
def ir22_r1 : IC := .reg [⟨some 6, none, false, .fad 0 (.t 1)⟩,
  ⟨some 7, none, false, .ldc (.t 6)⟩,
  ⟨some 8, none, false, .cmp .lss (.t 7) (.k (.int .i64 1))⟩,
  ⟨some 9, none, false, .mv (.t 8)⟩,
  ⟨some 10, some (9, false), false, .fad 0 (.t 1)⟩,
  ⟨some 11, some (9, false), false, .ldc (.t 10)⟩,
  ⟨some 12, some (9, false), false, .cmp .gtr (.t 11) (.k (.int .i64 250))⟩,
  ⟨some 13, none, false, .pick (.t 9) (.k (.bool true)) (.t 12)⟩,
  ⟨some 5, none, false, .mv (.t 13)⟩] (some [1, 5])
def ir22_r2 : IC := .reg [⟨some 2, none, false, .mv (.k (.slice none 0 0))⟩,
  ⟨some 3, none, false, .mv (.k (.int .i64 3))⟩] (some [2, 3])
def ir22_1 : IC := .seq ir22_r2 .ret
def ir22_r3 : IC := .reg [⟨some 15, none, false, .fad 1 (.t 1)⟩,
  ⟨some 16, none, false, .ldc (.t 15)⟩,
  ⟨some 17, none, false, .len (.t 16)⟩,
  ⟨some 18, none, false, .cmp .gtr (.t 17) (.k (.int .i64 10000))⟩,
  ⟨some 14, none, false, .mv (.t 18)⟩] (some [1, 14])
def ir22_r4 : IC := .reg [⟨some 2, none, false, .mv (.k (.slice none 0 0))⟩,
  ⟨some 3, none, false, .mv (.k (.int .i64 5))⟩] (some [2, 3])
def ir22_2 : IC := .seq ir22_r4 .ret
def ir22_3 : IC := .cond (.t 14) ir22_2 .skip
def ir22_4 : IC := .seq ir22_r3 ir22_3
def ir22_5 : IC := .cond (.t 5) ir22_1 ir22_4
def ir22_6 : IC := .seq ir22_r1 ir22_5
def ir22_7 : IC := .block 0 ir22_6
def ir22_r5 : IC := .reg [⟨some 4, none, false, .alloc [(.slice none 0 0), (.int .i64 0), (.int .i8 0)]⟩] (some [1, 4])
def ir22_r6 : IC := .reg [⟨some 19, none, false, .fad 0 (.t 1)⟩,
  ⟨some 20, none, false, .ldc (.t 19)⟩,
  ⟨some 21, none, false, .fad 1 (.t 1)⟩,
  ⟨some 22, none, false, .ldc (.t 21)⟩,
  ⟨some 23, none, false, .call (.f 62) [(.t 4), (.t 20), (.t 22)]⟩] (some [4])
def ir22_r7 : IC := .reg [⟨some 24, none, false, .fad 0 (.t 4)⟩,
  ⟨some 25, none, false, .call (.f 63) [(.t 24)]⟩,
  ⟨some 2, none, false, .mv (.t 25)⟩,
  ⟨some 3, none, false, .mv (.k (.int .i64 0))⟩] (some [2, 3])
def ir22_8 : IC := .seq ir22_r7 .ret
def ir22_9 : IC := .seq ir22_r6 ir22_8
def ir22_10 : IC := .seq ir22_r5 ir22_9
def ir22_11 : IC := .seq ir22_7 ir22_10
def ir22_12 : IC := .seq ir22_r0 ir22_11
def ir22 : IC := ir22_12
theorem fn22 : FnIs Tryd.prog 22 ir22 26 [.tmp 2, .tmp 3] := ⟨Tryd.f22, Tryd.f22.body.getD .skip, Tryd.func22, by kernel_rfl, by kernel_rfl, by kernel_rfl, by kernel_rfl⟩
theorem put_c (n c : Nat) (kind : Int) (xs : List Int) (hn : xs.length = n) (hB : isB xs) :
    Fc Tryd.prog 22 [frV kind (.slice (some ⟨1, 0, none⟩) n c)] (Hp 2 [none, srB xs]) (.tuple #[sO 2 (putX kind xs).length, .int .i64 (putE kind n)]) ((Hp 2 [none, srB xs]).news [.cells ⟨rows eB (putX kind xs), 1, true⟩]) := by
  refine Fc.introR fn22 (by simp) rfl rfl ?_; simp only [argF]
  refine ITri.seq ?_
  refine ITri.reg pok ?_; simp -implicitDefEqProofs (disch := first | decide | exact of_eq_true (eq_true rfl) | omega | assumption) only [ ↓vcD, vcE, ↓vcG, vcF, evs, evP, evB, intsOf, fillC, Value.cells, pt, Value.oneCell', reduceIte, reduceCtorEq, Nat.reduceEqDiff, Nat.reduceAdd, Nat.reduceMul, Nat.reduceLT, Nat.reduceBEq, Nat.reduceLeDiff, Nat.reduceSub] -- r0
  refine ITri.seq ?_
  refine ITri.block ?_ -- 0
  refine ITri.seq ?_
  by_cases g1 : kind < 1
  · have e : putE kind n = 3 := by unfold putE; rw [if_pos (.inl g1)]
    have ex : putX kind xs = [] := by unfold putX; rw [hn, e]; rfl
    rw [e, ex]
    refine ITri.reg pok ?_; simp -implicitDefEqProofs (disch := first | decide | exact of_eq_true (eq_true rfl) | omega | assumption) only [g1, decide_true,  ↓vcD, vcE, ↓vcG, vcF, evs, evP, evB, intsOf, fillC, Value.cells, pt, Value.oneCell', reduceIte, reduceCtorEq, Nat.reduceEqDiff, Nat.reduceAdd, Nat.reduceMul, Nat.reduceLT, Nat.reduceBEq, Nat.reduceLeDiff, Nat.reduceSub] -- r1
    refine ITri.cond (v := true) rfl (fun _ => ?_) (fun h => by cases h)
    refine ITri.seq ?_
    refine ITri.reg pok ?_; simp -implicitDefEqProofs (disch := first | decide | exact of_eq_true (eq_true rfl) | omega | assumption) only [ ↓vcD, vcE, ↓vcG, vcF, evs, evP, evB, intsOf, fillC, Value.cells, pt, Value.oneCell', reduceIte, reduceCtorEq, Nat.reduceEqDiff, Nat.reduceAdd, Nat.reduceMul, Nat.reduceLT, Nat.reduceBEq, Nat.reduceLeDiff, Nat.reduceSub]
    refine ITri.ret ?_
    exact end_nil (mk := fun s => .tuple #[s, .int .i64 3]) (mvP 3) (resF_tmp rfl (resF_tmp rfl resF_nil)) rfl
  by_cases g2 : 250 < kind
  · have e : putE kind n = 3 := by unfold putE; rw [if_pos (.inr g2)]
    have ex : putX kind xs = [] := by unfold putX; rw [hn, e]; rfl
    rw [e, ex]
    refine ITri.reg pok ?_; simp -implicitDefEqProofs (disch := first | decide | exact of_eq_true (eq_true rfl) | omega | assumption) only [g1, g2, decide_true, decide_false,  ↓vcD, vcE, ↓vcG, vcF, evs, evP, evB, intsOf, fillC, Value.cells, pt, Value.oneCell', reduceIte, reduceCtorEq, Nat.reduceEqDiff, Nat.reduceAdd, Nat.reduceMul, Nat.reduceLT, Nat.reduceBEq, Nat.reduceLeDiff, Nat.reduceSub] -- r1
    refine ITri.cond (v := true) rfl (fun _ => ?_) (fun h => by cases h)
    refine ITri.seq ?_
    refine ITri.reg pok ?_; simp -implicitDefEqProofs (disch := first | decide | exact of_eq_true (eq_true rfl) | omega | assumption) only [ ↓vcD, vcE, ↓vcG, vcF, evs, evP, evB, intsOf, fillC, Value.cells, pt, Value.oneCell', reduceIte, reduceCtorEq, Nat.reduceEqDiff, Nat.reduceAdd, Nat.reduceMul, Nat.reduceLT, Nat.reduceBEq, Nat.reduceLeDiff, Nat.reduceSub]
    refine ITri.ret ?_
    exact end_nil (mk := fun s => .tuple #[s, .int .i64 3]) (mvP 3) (resF_tmp rfl (resF_tmp rfl resF_nil)) rfl
  refine ITri.reg pok ?_; simp -implicitDefEqProofs (disch := first | decide | exact of_eq_true (eq_true rfl) | omega | assumption) only [g1, g2, decide_false,  ↓vcD, vcE, ↓vcG, vcF, evs, evP, evB, intsOf, fillC, Value.cells, pt, Value.oneCell', reduceIte, reduceCtorEq, Nat.reduceEqDiff, Nat.reduceAdd, Nat.reduceMul, Nat.reduceLT, Nat.reduceBEq, Nat.reduceLeDiff, Nat.reduceSub] -- r1
  refine ITri.cond (v := false) rfl (fun h => by cases h) (fun _ => ?_)
  refine ITri.seq ?_
  by_cases g3 : 10000 < n
  · have e : putE kind n = 5 := by unfold putE; rw [if_neg (by omega), if_pos g3]
    have ex : putX kind xs = [] := by unfold putX; rw [hn, e]; rfl
    have g3' : (10000 : Int) < n := by omega
    rw [e, ex]
    refine ITri.reg pok ?_; simp -implicitDefEqProofs (disch := first | decide | exact of_eq_true (eq_true rfl) | omega | assumption) only [g3', decide_true,  ↓vcD, vcE, ↓vcG, vcF, evs, evP, evB, intsOf, fillC, Value.cells, pt, Value.oneCell', reduceIte, reduceCtorEq, Nat.reduceEqDiff, Nat.reduceAdd, Nat.reduceMul, Nat.reduceLT, Nat.reduceBEq, Nat.reduceLeDiff, Nat.reduceSub] -- r3
    refine ITri.cond (v := true) rfl (fun _ => ?_) (fun h => by cases h)
    refine ITri.seq ?_
    refine ITri.reg pok ?_; simp -implicitDefEqProofs (disch := first | decide | exact of_eq_true (eq_true rfl) | omega | assumption) only [ ↓vcD, vcE, ↓vcG, vcF, evs, evP, evB, intsOf, fillC, Value.cells, pt, Value.oneCell', reduceIte, reduceCtorEq, Nat.reduceEqDiff, Nat.reduceAdd, Nat.reduceMul, Nat.reduceLT, Nat.reduceBEq, Nat.reduceLeDiff, Nat.reduceSub]
    refine ITri.ret ?_
    exact end_nil (mk := fun s => .tuple #[s, .int .i64 5]) (mvP 5) (resF_tmp rfl (resF_tmp rfl resF_nil)) rfl
  have g3' : ¬ (10000 : Int) < n := by omega
  have e : putE kind n = 0 := by unfold putE; rw [if_neg (by omega), if_neg g3]
  have ex : putX kind xs = frB kind.toNat xs := by unfold putX; rw [hn, e]; rfl
  rw [e, ex]
  obtain ⟨K, rfl⟩ := Int.eq_ofNat_of_zero_le (show 0 ≤ kind by omega)
  rw [Int.toNat_natCast]
  have hT : takeC (rows eB xs) 0 n = some (rows eB xs) := by
    rw [takeC_eq _ _ _ (by rw [rows_len]; omega), List.drop_zero, List.take_of_length_le (by rw [rows_len]; omega)]
  refine ITri.reg pok ?_; simp -implicitDefEqProofs (disch := first | decide | exact of_eq_true (eq_true rfl) | omega | assumption) only [g3', decide_false,  ↓vcD, vcE, ↓vcG, vcF, evs, evP, evB, intsOf, fillC, Value.cells, pt, Value.oneCell', reduceIte, reduceCtorEq, Nat.reduceEqDiff, Nat.reduceAdd, Nat.reduceMul, Nat.reduceLT, Nat.reduceBEq, Nat.reduceLeDiff, Nat.reduceSub] -- r3
  refine ITri.cond (v := false) rfl (fun h => by cases h) (fun _ => ?_); refine ITri.skip ?_; simp only [SeqQ_normal, BlkQ_normal]
  refine ITri.seq ?_
  refine ITri.reg pok ?_; simp -implicitDefEqProofs (disch := first | decide | exact of_eq_true (eq_true rfl) | omega | assumption) only [ ↓vcD, vcE, ↓vcG, vcF, evs, evP, evB, intsOf, fillC, Value.cells, pt, Value.oneCell', reduceIte, reduceCtorEq, Nat.reduceEqDiff, Nat.reduceAdd, Nat.reduceMul, Nat.reduceLT, Nat.reduceBEq, Nat.reduceLeDiff, Nat.reduceSub] -- r5
  refine ITri.seq ?_
  refine ITri.reg pok ?_; simp -implicitDefEqProofs (disch := first | decide | exact of_eq_true (eq_true rfl) | omega | assumption) only [ ↓vcD, vcE, ↓vcG, vcF, evs, evP, evB, intsOf, fillC, Value.cells, pt, Value.oneCell', reduceIte, reduceCtorEq, Nat.reduceEqDiff, Nat.reduceAdd, Nat.reduceMul, Nat.reduceLT, Nat.reduceBEq, Nat.reduceLeDiff, Nat.reduceSub] -- r6
  have W : Wr 2 [none, srB xs, some (AObj.cells ⟨[.int .i64 K, .slice (some ⟨1, 0, none⟩) n c], 1, false⟩), bufE] 3 3 [] := ⟨by decide, .inl ⟨rfl, rfl, rfl⟩⟩
  obtain ⟨L', k', T, F⟩ := frame_x (kind := K) (m := n) (k2 := 1) (o2 := 0) (c2 := c) W (by omega) rfl hT hn (by decide) (by decide) (by omega) (by decide) hB
  rw [List.nil_append] at T
  refine ⟨_, _, F, ?_⟩
  obtain ⟨q0, q1, q2, q3, q4⟩ : 1 ≤ (frB K xs).length ∧ 3 ≠ k' ∧ 2 ≤ k' ∧ L'[3]? = some (bufO (.slice (some ⟨k', 0, none⟩) (frB K xs).length openB)) ∧ L'[k']? = some (opR (frB K xs)) := by
    rcases T.st.st with ⟨h, _, _⟩ | h
    · simp [frB, frH] at h
    · exact h
  try simp -implicitDefEqProofs (disch := first | decide | exact of_eq_true (eq_true rfl) | omega | assumption) only [ ↓vcD, vcE, ↓vcG, vcF, evs, evP, evB, intsOf, fillC, Value.cells, pt, Value.oneCell', reduceIte, reduceCtorEq, Nat.reduceEqDiff, Nat.reduceAdd, Nat.reduceMul, Nat.reduceLT, Nat.reduceBEq, Nat.reduceLeDiff, Nat.reduceSub]
  refine ITri.seq ?_
  refine ITri.reg pok ?_; simp -implicitDefEqProofs (disch := first | decide | exact of_eq_true (eq_true rfl) | omega | assumption) only [ ↓vcD, vcE, ↓vcG, vcF, evs, evP, evB, intsOf, fillC, Value.cells, pt, Value.oneCell', reduceIte, reduceCtorEq, Nat.reduceEqDiff, Nat.reduceAdd, Nat.reduceMul, Nat.reduceLT, Nat.reduceBEq, Nat.reduceLeDiff, Nat.reduceSub] -- r7
  refine ⟨_, _, bytes_w q3, ?_⟩
  try simp -implicitDefEqProofs (disch := first | decide | exact of_eq_true (eq_true rfl) | omega | assumption) only [ ↓vcD, vcE, ↓vcG, vcF, evs, evP, evB, intsOf, fillC, Value.cells, pt, Value.oneCell', reduceIte, reduceCtorEq, Nat.reduceEqDiff, Nat.reduceAdd, Nat.reduceMul, Nat.reduceLT, Nat.reduceBEq, Nat.reduceLeDiff, Nat.reduceSub]
  refine ITri.ret ?_
  exact end_mk (k := k') (mk := fun s => .tuple #[s, .int .i64 0]) (mvP 0) q2 (rows_no (f := eB) _) (by rw [q4]; rfl) (resF_tmp rfl (resF_tmp rfl resF_nil)) rfl
theorem put_f {n c sz k : Nat} {op : Bool} {kind : Int} {xs : List Int} {h : AH} (hn : xs.length = n) (hB : isB xs) (hs : h.sees 0 = true) (hg : h.get k = some (.cells ⟨rows eB xs, sz, op⟩)) :
    Fc Tryd.prog 22 [frV kind (.slice (some ⟨k, 0, none⟩) n c)] h (.tuple #[sO h.next (putX kind xs).length, .int .i64 (putE kind n)]) (h.news [.cells ⟨rows eB (putX kind xs), 1, true⟩]) :=
  Fc.lift1o (os := [((putX kind xs).length, rows eB (putX kind xs), 1)]) (mk := fun ss => [.agg ⟨[Value.int .i64 kind] ++ ss ++ []⟩]) (mkv := fun ss => .tuple ⟨ss ++ [.int .i64 (putE kind n)]⟩) (put_c n c kind xs hn hB) (mkF kind) (MkV.tup (MkL.app rfl)) (rows_no (f := eB) _) (fun o h => by simp at h; subst h; exact rows_no (f := eB) _) hs hg
/- boule/bouleref06.Bytes · slots 27 · names 0:kind 1:payload 2:kind 3:payload 5:out 6:c · results [4] -/
def ir64_r0 : IC := .reg [⟨some 4, none, false, .mv (.k (.slice none 0 0))⟩] (some [0, 1])
def ir64_r1 : IC := .reg [⟨some 7, none, false, .mv (.t 0)⟩,
  ⟨some 8, none, false, .conv .u8 (.t 7)⟩,
  ⟨some 9, none, false, .bsl 1 1 [(.int .u8 0)] [(0, (.t 8))]⟩,
  ⟨some 10, none, false, .mv (.t 1)⟩,
  ⟨some 11, none, false, .len (.t 10)⟩,
  ⟨some 12, none, false, .call (.f 92) [(.t 11)]⟩,
  ⟨some 13, none, false, .app 1 1 (.t 9) (.t 12)⟩,
  ⟨some 14, none, false, .mv (.t 1)⟩,
  ⟨some 15, none, false, .app 1 1 (.t 13) (.t 14)⟩,
  ⟨some 5, none, false, .mv (.t 15)⟩] (some [5])
def ir64_r2 : IC := .reg [⟨some 16, none, false, .mv (.t 5)⟩,
  ⟨some 17, none, false, .call (.f 24) [(.t 16)]⟩,
  ⟨some 6, none, false, .mv (.t 17)⟩] (some [5, 6])
def ir64_r3 : IC := .reg [⟨some 18, none, false, .mv (.t 5)⟩,
  ⟨some 19, none, false, .mv (.t 6)⟩,
  ⟨some 20, none, false, .div .quo (.t 19) (.k (.int .i64 256))⟩,
  ⟨some 21, none, false, .conv .u8 (.t 20)⟩,
  ⟨some 22, none, false, .mv (.t 6)⟩,
  ⟨some 23, none, false, .div .rem (.t 22) (.k (.int .i64 256))⟩,
  ⟨some 24, none, false, .conv .u8 (.t 23)⟩,
  ⟨some 25, none, false, .bsl 1 2 [(.int .u8 0), (.int .u8 0)] [(0, (.t 21)), (1, (.t 24))]⟩,
  ⟨some 26, none, false, .app 1 1 (.t 18) (.t 25)⟩,
  ⟨some 4, none, false, .mv (.t 26)⟩] (some [4])
def ir64_1 : IC := .seq ir64_r3 .ret
def ir64_2 : IC := .seq ir64_r2 ir64_1
def ir64_3 : IC := .seq ir64_r1 ir64_2
def ir64_4 : IC := .seq ir64_r0 ir64_3
def ir64 : IC := ir64_4
theorem fn64 : FnIs Tryd.prog 64 ir64 27 [.tmp 4] := ⟨Tryd.f64, Tryd.f64.body.getD .skip, Tryd.func64, by kernel_rfl, by kernel_rfl, by kernel_rfl, by kernel_rfl⟩
/- boule/bouleref06.Put · slots 21 · names 0:f 1:f · results [2, 3] -/
def ir23_r0 : IC := .reg [⟨some 1, none, false, .box (.t 0)⟩,
  ⟨some 2, none, false, .mv (.k (.slice none 0 0))⟩,
  ⟨some 3, none, false, .mv (.k (.int .i64 0))⟩] (some [1])
def ir23_r1 : IC := .reg [⟨some 4, none, false, .fad 0 (.t 1)⟩,
  ⟨some 5, none, false, .ldc (.t 4)⟩,
  ⟨some 6, none, false, .cmp .lss (.t 5) (.k (.int .i64 1))⟩,
  ⟨some 7, none, false, .mv (.t 6)⟩,
  ⟨some 8, some (7, false), false, .fad 0 (.t 1)⟩,
  ⟨some 9, some (7, false), false, .ldc (.t 8)⟩,
  ⟨some 10, some (7, false), false, .cmp .gtr (.t 9) (.k (.int .i64 250))⟩,
  ⟨some 11, none, false, .pick (.t 7) (.k (.bool true)) (.t 10)⟩] (some [1, 11])
def ir23_r2 : IC := .reg [⟨some 2, none, false, .mv (.k (.slice none 0 0))⟩,
  ⟨some 3, none, false, .mv (.k (.int .i64 3))⟩] (some [2, 3])
def ir23_1 : IC := .seq ir23_r2 .ret
def ir23_2 : IC := .cond (.t 11) ir23_1 .skip
def ir23_3 : IC := .seq ir23_r1 ir23_2
def ir23_r3 : IC := .reg [⟨some 12, none, false, .fad 1 (.t 1)⟩,
  ⟨some 13, none, false, .ldc (.t 12)⟩,
  ⟨some 14, none, false, .len (.t 13)⟩,
  ⟨some 15, none, false, .cmp .gtr (.t 14) (.k (.int .i64 10000))⟩] (some [1, 15])
def ir23_r4 : IC := .reg [⟨some 2, none, false, .mv (.k (.slice none 0 0))⟩,
  ⟨some 3, none, false, .mv (.k (.int .i64 5))⟩] (some [2, 3])
def ir23_4 : IC := .seq ir23_r4 .ret
def ir23_5 : IC := .cond (.t 15) ir23_4 .skip
def ir23_6 : IC := .seq ir23_r3 ir23_5
def ir23_r5 : IC := .reg [⟨some 16, none, false, .fad 0 (.t 1)⟩,
  ⟨some 17, none, false, .ldc (.t 16)⟩,
  ⟨some 18, none, false, .fad 1 (.t 1)⟩,
  ⟨some 19, none, false, .ldc (.t 18)⟩,
  ⟨some 20, none, false, .call (.f 64) [(.t 17), (.t 19)]⟩,
  ⟨some 2, none, false, .mv (.t 20)⟩,
  ⟨some 3, none, false, .mv (.k (.int .i64 0))⟩] (some [2, 3])
def ir23_7 : IC := .seq ir23_r5 .ret
def ir23_8 : IC := .seq ir23_6 ir23_7
def ir23_9 : IC := .seq ir23_3 ir23_8
def ir23_10 : IC := .seq ir23_r0 ir23_9
def ir23 : IC := ir23_10
theorem fn23 : FnIs Tryd.prog 23 ir23 21 [.tmp 2, .tmp 3] := ⟨Tryd.f23, Tryd.f23.body.getD .skip, Tryd.func23, by kernel_rfl, by kernel_rfl, by kernel_rfl, by kernel_rfl⟩
theorem rbytes_c (n c K : Nat) (xs : List Int) (hn : xs.length = n) (hB : isB xs) (hK : K ≤ 250) (hb : n ≤ 100000) :
    Fc Tryd.prog 64 [.int .i64 K, .slice (some ⟨1, 0, none⟩) n c] (Hp 2 [none, srB xs]) (sO 2 (frB K xs).length) ((Hp 2 [none, srB xs]).news [.cells ⟨rows eB (frB K xs), 1, true⟩]) := by
  obtain ⟨g1, g2⟩ := groups_len (N := n) (by omega)
  have hHl : (frH K xs).length = 1 + (groups n).length + n := by rw [frH_len, hn]
  have hcl := crc_lt (xs := frH K xs) (frH K xs).length
  have hcd : crc (frH K xs) = crcF (frH K xs) (frH K xs).length := rfl
  have hTg : takeC (rows eB (groups n)) 0 (groups n).length = some (rows eB (groups n)) := by
    rw [takeC_eq _ _ _ (by rw [rows_len]; omega), List.drop_zero, List.take_of_length_le (by rw [rows_len]; omega)]
  have hT : takeC (rows eB xs) 0 n = some (rows eB xs) := by
    rw [takeC_eq _ _ _ (by rw [rows_len]; omega), List.drop_zero, List.take_of_length_le (by rw [rows_len]; omega)]
  have g0 : (groups n).length ≠ 0 := by omega
  have hgl : (rows eB (K :: groups n)).length = 1 + (groups n).length := by rw [rows_len, List.length_cons]; omega
  have b0 : dvI .rem (crc (frH K xs) : Int) 256 = ((crc (frH K xs) % 256 : Nat) : Int) := rfl
  have b1 : dvI .quo (crc (frH K xs) : Int) 256 = ((crc (frH K xs) / 256 : Nat) : Int) := rfl
  have rest : ∀ (j : Nat) (L : List (Option AObj)), 2 ≤ j → L[j]? = some (opR (frH K xs)) → ITri Tryd.prog 27 none 2 ir64_2 [(5, sO j (frH K xs).length)] [] (Hp 2 L) (EndR Tryd.prog [.tmp 4] 2 [.cells ⟨rows eB (frB K xs), 1, true⟩] (sO 2 (frB K xs).length)) := by
    intro j L h2 hj
    have hjl := get_lt hj
    refine ITri.seq ?_
    refine ITri.reg pok ?_; simp -implicitDefEqProofs (disch := first | decide | exact of_eq_true (eq_true rfl) | omega | assumption) only [ ↓vcD, vcE, ↓vcG, vcF, evs, evP, evB, intsOf, fillC, Value.cells, pt, Value.oneCell', reduceIte, reduceCtorEq, Nat.reduceEqDiff, Nat.reduceAdd, Nat.reduceMul, Nat.reduceLT, Nat.reduceBEq, Nat.reduceLeDiff, Nat.reduceSub] -- r2
    refine ⟨_, _, rcheck_x (xs := frH K xs) (by rw [hj]; rfl) (bys_rows _) (frH_isB (by omega) hB (by omega)) rfl (by rw [hHl]; omega), ?_⟩
    try simp -implicitDefEqProofs (disch := first | decide | exact of_eq_true (eq_true rfl) | omega | assumption) only [ ↓vcD, vcE, ↓vcG, vcF, evs, evP, evB, intsOf, fillC, Value.cells, pt, Value.oneCell', reduceIte, reduceCtorEq, Nat.reduceEqDiff, Nat.reduceAdd, Nat.reduceMul, Nat.reduceLT, Nat.reduceBEq, Nat.reduceLeDiff, Nat.reduceSub]
    refine ITri.seq ?_
    refine ITri.reg pok ?_; simp -implicitDefEqProofs (disch := first | decide | exact of_eq_true (eq_true rfl) | omega | assumption) only [b0, b1,  ↓vcD, vcE, ↓vcG, vcF, evs, evP, evB, intsOf, fillC, Value.cells, pt, Value.oneCell', reduceIte, reduceCtorEq, Nat.reduceEqDiff, Nat.reduceAdd, Nat.reduceMul, Nat.reduceLT, Nat.reduceBEq, Nat.reduceLeDiff, Nat.reduceSub] -- r3
    rw [appK_o rfl (by rw [low_get hj]; rfl) (by rw [rows_len]) (by decide)]
    simp -implicitDefEqProofs (disch := first | decide | exact of_eq_true (eq_true rfl) | omega | assumption) only [apd_get, apd_get0, apd_set0, apd_set, List.length_append, List.append_assoc, Nat.add_assoc, h2,  ↓vcD, vcE, ↓vcG, vcF, evs, evP, evB, intsOf, fillC, Value.cells, pt, Value.oneCell', reduceIte, reduceCtorEq, Nat.reduceEqDiff, Nat.reduceAdd, Nat.reduceMul, Nat.reduceLT, Nat.reduceBEq, Nat.reduceLeDiff, Nat.reduceSub]
    refine ITri.ret ?_
    have e3 : rows eB (frH K xs) ++ [Value.int .u8 ((crc (frH K xs) / 256 : Nat) : Int), .int .u8 ((crc (frH K xs) % 256 : Nat) : Int)] = rows eB (frB K xs) := by unfold frB; rw [rows_append]; rfl
    rw [e3, ← frB_len]
    exact end_mk (k := L.length + 1) (mk := fun s => s) mvI (by omega) (rows_no (f := eB) _) (by rw [List.getElem?_set_ne (by omega), List.getElem?_append_right (by omega), Nat.add_sub_cancel_left]; rfl) (resF_tmp rfl resF_nil) rfl
  refine Fc.introR fn64 (by simp) rfl rfl ?_; simp only [argF]
  refine ITri.seq ?_
  refine ITri.reg pok ?_; simp -implicitDefEqProofs (disch := first | decide | exact of_eq_true (eq_true rfl) | omega | assumption) only [ ↓vcD, vcE, ↓vcG, vcF, evs, evP, evB, intsOf, fillC, Value.cells, pt, Value.oneCell', reduceIte, reduceCtorEq, Nat.reduceEqDiff, Nat.reduceAdd, Nat.reduceMul, Nat.reduceLT, Nat.reduceBEq, Nat.reduceLeDiff, Nat.reduceSub] -- r0
  refine ITri.seq ?_
  refine ITri.reg pok ?_; simp -implicitDefEqProofs (disch := first | decide | exact of_eq_true (eq_true rfl) | omega | assumption) only [ ↓vcD, vcE, ↓vcG, vcF, evs, evP, evB, intsOf, fillC, Value.cells, pt, Value.oneCell', reduceIte, reduceCtorEq, Nat.reduceEqDiff, Nat.reduceAdd, Nat.reduceMul, Nat.reduceLT, Nat.reduceBEq, Nat.reduceLeDiff, Nat.reduceSub] -- r1
  refine ⟨_, _, groups_f (by omega) (sees0 rfl (of_decide_eq_true rfl)), ?_⟩
  simp -implicitDefEqProofs (disch := first | decide | exact of_eq_true (eq_true rfl) | omega | assumption) only [news_c, news_n,  ↓vcD, vcE, ↓vcG, vcF, evs, evP, evB, intsOf, fillC, Value.cells, pt, Value.oneCell', reduceIte, reduceCtorEq, Nat.reduceEqDiff, Nat.reduceAdd, Nat.reduceMul, Nat.reduceLT, Nat.reduceBEq, Nat.reduceLeDiff, Nat.reduceSub]
  rw [appK_g rfl rfl rfl (by omega) (by unfold openB; omega) g0]
  simp -implicitDefEqProofs (disch := first | decide | exact of_eq_true (eq_true rfl) | omega | assumption) only [hTg, rows_allT,  ↓vcD, vcE, ↓vcG, vcF, evs, evP, evB, intsOf, fillC, Value.cells, pt, Value.oneCell', reduceIte, reduceCtorEq, Nat.reduceEqDiff, Nat.reduceAdd, Nat.reduceMul, Nat.reduceLT, Nat.reduceBEq, Nat.reduceLeDiff, Nat.reduceSub]
  have hs1 : Value.int .u8 (K : Int) :: rows eB (groups n) = rows eB ((K : Int) :: groups n) := rfl
  rw [hs1]
  by_cases hn0 : n = 0
  · subst hn0
    obtain rfl : xs = [] := List.eq_nil_of_length_eq_zero hn
    rw [appK_zo]
    have e1 : frH K [] = (K : Int) :: groups 0 := by unfold frH; rw [List.length_nil, List.append_nil]
    have e2 : 1 + (groups 0).length = (frH K []).length := by rw [e1, List.length_cons]; omega
    rw [e2]
    exact rest 4 _ (by decide) (by rw [e1]; rfl)
  · rw [appK_o rfl rfl (by rw [hgl]; omega) hn0]
    have e1 : frH K xs = ((K : Int) :: groups n) ++ xs := by unfold frH; rw [hn]; rfl
    have e2 : 1 + (groups n).length + n = (frH K xs).length := by rw [hHl]
    simp -implicitDefEqProofs (disch := first | decide | exact of_eq_true (eq_true rfl) | omega | assumption) only [hT, rows_allT,  ↓vcD, vcE, ↓vcG, vcF, evs, evP, evB, intsOf, fillC, Value.cells, pt, Value.oneCell', reduceIte, reduceCtorEq, Nat.reduceEqDiff, Nat.reduceAdd, Nat.reduceMul, Nat.reduceLT, Nat.reduceBEq, Nat.reduceLeDiff, Nat.reduceSub]
    rw [e2, ← rows_append, ← e1]
    exact rest 5 _ (by decide) rfl
theorem rbytes_f {n c K sz k : Nat} {op : Bool} {xs : List Int} {h : AH} (hn : xs.length = n) (hB : isB xs) (hK : K ≤ 250) (hb : n ≤ 100000) (hs : h.sees 0 = true) (hg : h.get k = some (.cells ⟨rows eB xs, sz, op⟩)) :
    Fc Tryd.prog 64 [.int .i64 K, .slice (some ⟨k, 0, none⟩) n c] h (sO h.next (frB K xs).length) (h.news [.cells ⟨rows eB (frB K xs), 1, true⟩]) :=
  Fc.lift1o (os := [((frB K xs).length, rows eB (frB K xs), 1)]) (mk := fun ss => [Value.int .i64 K] ++ ss ++ []) (mkv := fun ss => ss.headD undef) (rbytes_c n c K xs hn hB hK hb) (MkL.mid rfl rfl) MkV.one (rows_no (f := eB) _) (fun o h => by simp at h; subst h; exact rows_no (f := eB) _) hs hg
theorem rput_c (n c : Nat) (kind : Int) (xs : List Int) (hn : xs.length = n) (hB : isB xs) :
    Fc Tryd.prog 23 [frV kind (.slice (some ⟨1, 0, none⟩) n c)] (Hp 2 [none, srB xs]) (.tuple #[sO 2 (putX kind xs).length, .int .i64 (putE kind n)]) ((Hp 2 [none, srB xs]).news [.cells ⟨rows eB (putX kind xs), 1, true⟩]) := by
  refine Fc.introR fn23 (by simp) rfl rfl ?_; simp only [argF]
  refine ITri.seq ?_
  refine ITri.reg pok ?_; simp -implicitDefEqProofs (disch := first | decide | exact of_eq_true (eq_true rfl) | omega | assumption) only [ ↓vcD, vcE, ↓vcG, vcF, evs, evP, evB, intsOf, fillC, Value.cells, pt, Value.oneCell', reduceIte, reduceCtorEq, Nat.reduceEqDiff, Nat.reduceAdd, Nat.reduceMul, Nat.reduceLT, Nat.reduceBEq, Nat.reduceLeDiff, Nat.reduceSub] -- r0
  refine ITri.seq ?_
  refine ITri.seq ?_
  by_cases g1 : kind < 1
  · have e : putE kind n = 3 := by unfold putE; rw [if_pos (.inl g1)]
    have ex : putX kind xs = [] := by unfold putX; rw [hn, e]; rfl
    rw [e, ex]
    refine ITri.reg pok ?_; simp -implicitDefEqProofs (disch := first | decide | exact of_eq_true (eq_true rfl) | omega | assumption) only [g1, decide_true,  ↓vcD, vcE, ↓vcG, vcF, evs, evP, evB, intsOf, fillC, Value.cells, pt, Value.oneCell', reduceIte, reduceCtorEq, Nat.reduceEqDiff, Nat.reduceAdd, Nat.reduceMul, Nat.reduceLT, Nat.reduceBEq, Nat.reduceLeDiff, Nat.reduceSub] -- r1
    refine ITri.cond (v := true) rfl (fun _ => ?_) (fun h => by cases h)
    refine ITri.seq ?_
    refine ITri.reg pok ?_; simp -implicitDefEqProofs (disch := first | decide | exact of_eq_true (eq_true rfl) | omega | assumption) only [ ↓vcD, vcE, ↓vcG, vcF, evs, evP, evB, intsOf, fillC, Value.cells, pt, Value.oneCell', reduceIte, reduceCtorEq, Nat.reduceEqDiff, Nat.reduceAdd, Nat.reduceMul, Nat.reduceLT, Nat.reduceBEq, Nat.reduceLeDiff, Nat.reduceSub]
    refine ITri.ret ?_
    exact end_nil (mk := fun s => .tuple #[s, .int .i64 3]) (mvP 3) (resF_tmp rfl (resF_tmp rfl resF_nil)) rfl
  by_cases g2 : 250 < kind
  · have e : putE kind n = 3 := by unfold putE; rw [if_pos (.inr g2)]
    have ex : putX kind xs = [] := by unfold putX; rw [hn, e]; rfl
    rw [e, ex]
    refine ITri.reg pok ?_; simp -implicitDefEqProofs (disch := first | decide | exact of_eq_true (eq_true rfl) | omega | assumption) only [g1, g2, decide_true, decide_false,  ↓vcD, vcE, ↓vcG, vcF, evs, evP, evB, intsOf, fillC, Value.cells, pt, Value.oneCell', reduceIte, reduceCtorEq, Nat.reduceEqDiff, Nat.reduceAdd, Nat.reduceMul, Nat.reduceLT, Nat.reduceBEq, Nat.reduceLeDiff, Nat.reduceSub] -- r1
    refine ITri.cond (v := true) rfl (fun _ => ?_) (fun h => by cases h)
    refine ITri.seq ?_
    refine ITri.reg pok ?_; simp -implicitDefEqProofs (disch := first | decide | exact of_eq_true (eq_true rfl) | omega | assumption) only [ ↓vcD, vcE, ↓vcG, vcF, evs, evP, evB, intsOf, fillC, Value.cells, pt, Value.oneCell', reduceIte, reduceCtorEq, Nat.reduceEqDiff, Nat.reduceAdd, Nat.reduceMul, Nat.reduceLT, Nat.reduceBEq, Nat.reduceLeDiff, Nat.reduceSub]
    refine ITri.ret ?_
    exact end_nil (mk := fun s => .tuple #[s, .int .i64 3]) (mvP 3) (resF_tmp rfl (resF_tmp rfl resF_nil)) rfl
  refine ITri.reg pok ?_; simp -implicitDefEqProofs (disch := first | decide | exact of_eq_true (eq_true rfl) | omega | assumption) only [g1, g2, decide_false,  ↓vcD, vcE, ↓vcG, vcF, evs, evP, evB, intsOf, fillC, Value.cells, pt, Value.oneCell', reduceIte, reduceCtorEq, Nat.reduceEqDiff, Nat.reduceAdd, Nat.reduceMul, Nat.reduceLT, Nat.reduceBEq, Nat.reduceLeDiff, Nat.reduceSub] -- r1
  refine ITri.cond (v := false) rfl (fun h => by cases h) (fun _ => ?_); refine ITri.skip ?_; simp only [SeqQ_normal, BlkQ_normal]
  refine ITri.seq ?_
  refine ITri.seq ?_
  by_cases g3 : 10000 < n
  · have e : putE kind n = 5 := by unfold putE; rw [if_neg (by omega), if_pos g3]
    have ex : putX kind xs = [] := by unfold putX; rw [hn, e]; rfl
    have g3' : (10000 : Int) < n := by omega
    rw [e, ex]
    refine ITri.reg pok ?_; simp -implicitDefEqProofs (disch := first | decide | exact of_eq_true (eq_true rfl) | omega | assumption) only [g3', decide_true,  ↓vcD, vcE, ↓vcG, vcF, evs, evP, evB, intsOf, fillC, Value.cells, pt, Value.oneCell', reduceIte, reduceCtorEq, Nat.reduceEqDiff, Nat.reduceAdd, Nat.reduceMul, Nat.reduceLT, Nat.reduceBEq, Nat.reduceLeDiff, Nat.reduceSub] -- r3
    refine ITri.cond (v := true) rfl (fun _ => ?_) (fun h => by cases h)
    refine ITri.seq ?_
    refine ITri.reg pok ?_; simp -implicitDefEqProofs (disch := first | decide | exact of_eq_true (eq_true rfl) | omega | assumption) only [ ↓vcD, vcE, ↓vcG, vcF, evs, evP, evB, intsOf, fillC, Value.cells, pt, Value.oneCell', reduceIte, reduceCtorEq, Nat.reduceEqDiff, Nat.reduceAdd, Nat.reduceMul, Nat.reduceLT, Nat.reduceBEq, Nat.reduceLeDiff, Nat.reduceSub]
    refine ITri.ret ?_
    exact end_nil (mk := fun s => .tuple #[s, .int .i64 5]) (mvP 5) (resF_tmp rfl (resF_tmp rfl resF_nil)) rfl
  have g3' : ¬ (10000 : Int) < n := by omega
  have e : putE kind n = 0 := by unfold putE; rw [if_neg (by omega), if_neg g3]
  have ex : putX kind xs = frB kind.toNat xs := by unfold putX; rw [hn, e]; rfl
  rw [e, ex]
  obtain ⟨K, rfl⟩ := Int.eq_ofNat_of_zero_le (show 0 ≤ kind by omega)
  rw [Int.toNat_natCast]
  refine ITri.reg pok ?_; simp -implicitDefEqProofs (disch := first | decide | exact of_eq_true (eq_true rfl) | omega | assumption) only [g3', decide_false,  ↓vcD, vcE, ↓vcG, vcF, evs, evP, evB, intsOf, fillC, Value.cells, pt, Value.oneCell', reduceIte, reduceCtorEq, Nat.reduceEqDiff, Nat.reduceAdd, Nat.reduceMul, Nat.reduceLT, Nat.reduceBEq, Nat.reduceLeDiff, Nat.reduceSub] -- r3
  refine ITri.cond (v := false) rfl (fun h => by cases h) (fun _ => ?_); refine ITri.skip ?_; simp only [SeqQ_normal, BlkQ_normal]
  refine ITri.seq ?_
  refine ITri.reg pok ?_; simp -implicitDefEqProofs (disch := first | decide | exact of_eq_true (eq_true rfl) | omega | assumption) only [ ↓vcD, vcE, ↓vcG, vcF, evs, evP, evB, intsOf, fillC, Value.cells, pt, Value.oneCell', reduceIte, reduceCtorEq, Nat.reduceEqDiff, Nat.reduceAdd, Nat.reduceMul, Nat.reduceLT, Nat.reduceBEq, Nat.reduceLeDiff, Nat.reduceSub] -- r5
  refine ⟨_, _, rbytes_f hn hB (by omega) (by omega) (sees0 rfl (of_decide_eq_true rfl)) (get_hq rfl rfl), ?_⟩
  simp -implicitDefEqProofs (disch := first | decide | exact of_eq_true (eq_true rfl) | omega | assumption) only [news_c, news_n,  ↓vcD, vcE, ↓vcG, vcF, evs, evP, evB, intsOf, fillC, Value.cells, pt, Value.oneCell', reduceIte, reduceCtorEq, Nat.reduceEqDiff, Nat.reduceAdd, Nat.reduceMul, Nat.reduceLT, Nat.reduceBEq, Nat.reduceLeDiff, Nat.reduceSub]
  refine ITri.ret ?_
  exact end_mk (k := 3) (mk := fun s => .tuple #[s, .int .i64 0]) (mvP 0) (by decide) (rows_no (f := eB) _) rfl (resF_tmp rfl (resF_tmp rfl resF_nil)) rfl
theorem rput_f {n c sz k : Nat} {op : Bool} {kind : Int} {xs : List Int} {h : AH} (hn : xs.length = n) (hB : isB xs) (hs : h.sees 0 = true) (hg : h.get k = some (.cells ⟨rows eB xs, sz, op⟩)) :
    Fc Tryd.prog 23 [frV kind (.slice (some ⟨k, 0, none⟩) n c)] h (.tuple #[sO h.next (putX kind xs).length, .int .i64 (putE kind n)]) (h.news [.cells ⟨rows eB (putX kind xs), 1, true⟩]) :=
  Fc.lift1o (os := [((putX kind xs).length, rows eB (putX kind xs), 1)]) (mk := fun ss => [.agg ⟨[Value.int .i64 kind] ++ ss ++ []⟩]) (mkv := fun ss => .tuple ⟨ss ++ [.int .i64 (putE kind n)]⟩) (rput_c n c kind xs hn hB) (mkF kind) (MkV.tup (MkL.app rfl)) (rows_no (f := eB) _) (fun o h => by simp at h; subst h; exact rows_no (f := eB) _) hs hg
end Go.Proofs.YtgjokhodccacoaaDoor
