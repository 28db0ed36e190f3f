/-
  Chapter 6: the worst of two maps, by names; what is turned or worst, wherever it stands.
-/
import Derived.Test.YtgjokhodccacoaaDoorSRecC3
set_option linter.unusedSimpArgs false
set_option linter.unusedVariables false
namespace Go.Vm
open Go Go.RowKit
/-- A slice with elements is not nil. -/
theorem gen_eqnil {P : Program} {w : Bool} {t u : TypeId} {s : Nat} {l : Fr} {h : AH} {K : Value → AH → Prop} {el : TypeId} {a : Addr} {n c : Nat} (hu : P.underlying t = some (.slice el)) (hl : lk l s = some (.slice (some a) n c)) (hn : n ≠ 0) (q : K (.bool false) h) :
    iStep P w (.gen (.binOp .eql t (.tmp s) (.const (.slice none 0 0)) u)) l h K := by
  refine ⟨_, _, ?_, q⟩
  have e1 : aEnv (trOf l) (.tmp s) = some (.slice (some a) n c) := by simp only [aEnv, trOf_get, hl]
  have e2 : aEnv (trOf l) (.const (.slice none 0 0)) = some (.slice none 0 0) := rfl
  simp only [aOp, e1, e2, noAddr, Bool.false_and, Bool.false_eq_true, if_false, aEq, hu, isNil, hn, ne_eq, not_false_eq_true, true_or, if_true]
end Go.Vm
namespace Go.Proofs.YtgjokhodccacoaaDoor
open Go.RowKit Go.Vm
set_option maxRecDepth 100000
theorem d20 : decide ((2 : Int) = 0) = false := rfl
theorem u_slN : Tryd.prog.underlying 54 = some (.slice 3) := by kernel_rfl
/- slices.Clone[[]int,int] · slots 8 · names 0:s 1:s · results [2] -/
def ir100_r0 : IC := .reg [⟨some 2, none, false, .mv (.k (.slice none 0 0))⟩] (some [0])
def ir100_r1 : IC := .reg [⟨some 3, none, false, .mv (.t 0)⟩,
  ⟨some 4, none, false, .gen (.binOp .eql 54 (.tmp 3) (.const (.slice none 0 0)) 54)⟩] (some [0, 4])
def ir100_r2 : IC := .reg [⟨some 2, none, false, .mv (.k (.slice none 0 0))⟩] (some [2])
def ir100_1 : IC := .seq ir100_r2 .ret
def ir100_2 : IC := .cond (.t 4) ir100_1 .skip
def ir100_3 : IC := .seq ir100_r1 ir100_2
def ir100_r3 : IC := .reg [⟨some 5, none, false, .bsl 1 0 [] []⟩,
  ⟨some 6, none, false, .mv (.t 0)⟩,
  ⟨some 7, none, false, .app 1 8 (.t 5) (.t 6)⟩,
  ⟨some 2, none, false, .mv (.t 7)⟩] (some [2])
def ir100_4 : IC := .seq ir100_r3 .ret
def ir100_5 : IC := .seq ir100_3 ir100_4
def ir100_6 : IC := .seq ir100_r0 ir100_5
def ir100 : IC := ir100_6
theorem fn100 : FnIs Tryd.prog 100 ir100 8 [.tmp 2] := ⟨Tryd.f100, Tryd.f100.body.getD .skip, Tryd.func100, by kernel_rfl, by kernel_rfl, by kernel_rfl, by kernel_rfl⟩
/- boule/record.Worst · slots 61 · names 0:a 1:b 2:a 3:b 6:m 7:i 8:c · results [4, 5] -/
def ir57_r0 : IC := .reg [⟨some 2, none, false, .box (.t 0)⟩,
  ⟨some 3, none, false, .box (.t 1)⟩,
  ⟨some 4, none, false, .alloc [(.int .i64 0), (.int .i64 0), (.slice none 0 0)]⟩,
  ⟨some 5, none, false, .mv (.k (.int .i64 0))⟩] (some [2, 3, 4])
def ir57_r1 : IC := .reg [⟨some 9, none, false, .lda 3 (.t 2)⟩,
  ⟨some 10, none, false, .call (.f 36) [(.t 9)]⟩,
  ⟨some 11, none, false, .cmp .neq (.t 10) (.k (.int .i64 0))⟩,
  ⟨some 12, none, false, .mv (.t 11)⟩,
  ⟨some 13, some (12, false), false, .lda 3 (.t 3)⟩,
  ⟨some 14, some (12, false), false, .call (.f 36) [(.t 13)]⟩,
  ⟨some 15, some (12, false), false, .cmp .neq (.t 14) (.k (.int .i64 0))⟩,
  ⟨some 16, none, false, .pick (.t 12) (.k (.bool true)) (.t 15)⟩,
  ⟨some 17, none, false, .mv (.t 16)⟩,
  ⟨some 18, some (17, false), false, .fad 0 (.t 2)⟩,
  ⟨some 19, some (17, false), false, .ldc (.t 18)⟩,
  ⟨some 20, some (17, false), false, .fad 0 (.t 3)⟩,
  ⟨some 21, some (17, false), false, .ldc (.t 20)⟩,
  ⟨some 22, some (17, false), false, .cmp .neq (.t 19) (.t 21)⟩,
  ⟨some 23, none, false, .pick (.t 17) (.k (.bool true)) (.t 22)⟩,
  ⟨some 24, none, false, .mv (.t 23)⟩,
  ⟨some 25, some (24, false), false, .fad 1 (.t 2)⟩,
  ⟨some 26, some (24, false), false, .ldc (.t 25)⟩,
  ⟨some 27, some (24, false), false, .fad 1 (.t 3)⟩,
  ⟨some 28, some (24, false), false, .ldc (.t 27)⟩,
  ⟨some 29, some (24, false), false, .cmp .neq (.t 26) (.t 28)⟩,
  ⟨some 30, none, false, .pick (.t 24) (.k (.bool true)) (.t 29)⟩] (some [2, 3, 4, 30])
def ir57_r2 : IC := .reg [⟨some 31, none, false, .bld [(.int .i64 0), (.int .i64 0), (.slice none 0 0)] []⟩,
  ⟨none, none, false, .st 3 (.t 4) (.t 31)⟩,
  ⟨some 5, none, false, .mv (.k (.int .i64 2))⟩] (some [4, 5])
def ir57_1 : IC := .seq ir57_r2 .ret
def ir57_2 : IC := .cond (.t 30) ir57_1 .skip
def ir57_3 : IC := .seq ir57_r1 ir57_2
def ir57_r3 : IC := .draw [(⟨some 32, none, false, .fad 0 (.t 2)⟩, false, 0, 0),
  (⟨some 33, none, false, .ldc (.t 32)⟩, false, 1, 1),
  (⟨some 34, none, false, .fad 1 (.t 2)⟩, false, 0, 0),
  (⟨some 35, none, false, .ldc (.t 34)⟩, false, 4, 2),
  (⟨some 36, none, false, .fad 2 (.t 2)⟩, false, 0, 0),
  (⟨some 37, none, false, .ldc (.t 36)⟩, false, 16, 6),
  (⟨some 38, none, false, .call (.f 100) [(.t 37)]⟩, false, 48, 6),
  (⟨some 39, none, false, .bld [(.int .i64 0), (.int .i64 0), (.slice none 0 0)] [(0, 1, (.t 33)), (1, 1, (.t 35)), (2, 1, (.t 38))]⟩, false, 127, 0),
  (⟨some 6, none, false, .alloc [(.int .i64 0), (.int .i64 0), (.slice none 0 0)]⟩, false, 0, 54),
  (⟨none, none, false, .st 3 (.t 6) (.t 39)⟩, true, 511, 0)] (some [3, 4, 6])
def ir57_r4 : IC := .reg [⟨some 40, none, false, .fad 2 (.t 3)⟩,
  ⟨some 41, none, false, .ldc (.t 40)⟩,
  ⟨some 42, none, false, .len (.t 41)⟩,
  ⟨some 43, none, false, .mv (.k (.int .i64 0))⟩] (some [4, 6, 41, 42, 43])
def ir57_r5 : IC := .reg [⟨some 44, none, false, .cmp .lss (.t 43) (.t 42)⟩] (some [4, 6, 41, 42, 43, 44])
def ir57_4 : IC := .cond (.t 44) .skip (.exit 0)
def ir57_r6 : IC := .reg [⟨some 45, none, false, .mv (.t 43)⟩,
  ⟨some 46, none, false, .iad 1 (.t 41) (.t 43)⟩,
  ⟨some 47, none, false, .ldc (.t 46)⟩,
  ⟨some 7, none, false, .mv (.t 45)⟩,
  ⟨some 8, none, false, .mv (.t 47)⟩] (some [4, 6, 7, 8, 41, 42, 43])
def ir57_r7 : IC := .draw [(⟨some 48, none, false, .fad 2 (.t 6)⟩, false, 0, 0),
  (⟨some 49, none, false, .ldc (.t 48)⟩, false, 1, 1),
  (⟨some 50, none, false, .mv (.t 7)⟩, false, 0, 0),
  (⟨some 51, none, false, .fad 2 (.t 6)⟩, false, 0, 0),
  (⟨some 52, none, false, .ldc (.t 51)⟩, false, 8, 2),
  (⟨some 53, none, false, .mv (.t 7)⟩, false, 0, 0),
  (⟨some 54, none, false, .iad 1 (.t 52) (.t 53)⟩, false, 56, 0),
  (⟨some 55, none, false, .ldc (.t 54)⟩, false, 120, 2),
  (⟨some 56, none, false, .mv (.t 8)⟩, false, 0, 0),
  (⟨some 57, none, false, .mm false [(.t 55), (.t 56)]⟩, false, 504, 0),
  (⟨some 58, none, false, .iad 1 (.t 49) (.t 50)⟩, false, 1023, 0),
  (⟨none, none, false, .st 1 (.t 58) (.t 57)⟩, true, 2047, 0)] (some [4, 6, 41, 42, 43])
def ir57_5 : IC := .seq ir57_r6 ir57_r7
def ir57_6 : IC := .block 1 ir57_5
def ir57_r8 : IC := .reg [⟨some 59, none, false, .ar .add (.t 43) (.k (.int .i64 1))⟩,
  ⟨some 43, none, false, .mv (.t 59)⟩] (some [4, 6, 41, 42, 43])
def ir57_7 : IC := .seq ir57_6 ir57_r8
def ir57_8 : IC := .seq ir57_4 ir57_7
def ir57_9 : IC := .seq ir57_r5 ir57_8
def ir57_10 : IC := .loop ir57_9
def ir57_11 : IC := .block 0 ir57_10
def ir57_12 : IC := .seq ir57_r4 ir57_11
def ir57_r9 : IC := .reg [⟨some 60, none, false, .lda 3 (.t 6)⟩,
  ⟨none, none, false, .st 3 (.t 4) (.t 60)⟩,
  ⟨some 5, none, false, .mv (.k (.int .i64 0))⟩] (some [4, 5])
def ir57_13 : IC := .seq ir57_r9 .ret
def ir57_14 : IC := .seq ir57_12 ir57_13
def ir57_15 : IC := .seq ir57_r3 ir57_14
def ir57_16 : IC := .seq ir57_3 ir57_15
def ir57_17 : IC := .seq ir57_r0 ir57_16
def ir57 : IC := ir57_17
theorem fn57 : FnIs Tryd.prog 57 ir57 61 [.cell 4 56, .tmp 5] := ⟨Tryd.f57, Tryd.f57.body.getD .skip, Tryd.func57, by kernel_rfl, by kernel_rfl, by kernel_rfl, by kernel_rfl⟩
/- boule/bouleref06.Worst · slots 60 · names 0:a 1:b 2:a 3:b 6:m 7:i · results [4, 5] -/
/-- slices.Clone of numbers, of which there are some. -/
theorem clone_c (n c : Nat) (xs : List Int) (hn : xs.length = n) (h0 : n ≠ 0) (hb : n ≤ 1000000) :
    Fc Tryd.prog 100 [s1 n c] (Hp 2 [none, some (.cells ⟨rows eN xs, 0, false⟩)]) (sO 2 n) ((Hp 2 [none, some (.cells ⟨rows eN xs, 0, false⟩)]).news [.cells ⟨rows eN xs, 1, true⟩]) := by
  refine Fc.introR fn100 (by simp) rfl rfl ?_; simp only [argF]
  have hl : (rows eN xs).length = n * 1 := by rw [rows_len, hn]
  refine ITri.seq ?_
  refine ITri.reg pok ?_; simp -implicitDefEqProofs (disch := first | decide | exact of_eq_true (eq_true rfl) | omega | assumption) only [ ↓vcD, vcE, ↓vcG, vcF, evs, evP, evB, intsOf, fillC, Value.cells, pt, Value.oneCell', reduceIte, reduceCtorEq, Nat.reduceEqDiff, Nat.reduceAdd, Nat.reduceMul, Nat.reduceLT, Nat.reduceBEq, Nat.reduceLeDiff, Nat.reduceSub] -- r0
  refine ITri.seq ?_
  refine ITri.seq ?_
  refine ITri.reg pok ?_; simp -implicitDefEqProofs (disch := first | decide | exact of_eq_true (eq_true rfl) | omega | assumption) only [ ↓vcD, vcE, ↓vcG, vcF, evs, evP, evB, intsOf, fillC, Value.cells, pt, Value.oneCell', reduceIte, reduceCtorEq, Nat.reduceEqDiff, Nat.reduceAdd, Nat.reduceMul, Nat.reduceLT, Nat.reduceBEq, Nat.reduceLeDiff, Nat.reduceSub] -- r1
  refine gen_eqnil u_slN rfl h0 ?_
  try simp -implicitDefEqProofs (disch := first | decide | exact of_eq_true (eq_true rfl) | omega | assumption) only [ ↓vcD, vcE, ↓vcG, vcF, evs, evP, evB, intsOf, fillC, Value.cells, pt, Value.oneCell', reduceIte, reduceCtorEq, Nat.reduceEqDiff, Nat.reduceAdd, Nat.reduceMul, Nat.reduceLT, Nat.reduceBEq, Nat.reduceLeDiff, Nat.reduceSub]
  refine ITri.cond (v := false) rfl (fun h => by cases h) (fun _ => ?_); refine ITri.skip ?_; simp only [SeqQ_normal, BlkQ_normal]
  refine ITri.seq ?_
  refine ITri.reg pok ?_; simp -implicitDefEqProofs (disch := first | decide | exact of_eq_true (eq_true rfl) | omega | assumption) only [hl, rows_allT,  ↓vcD, vcE, ↓vcG, vcF, evs, evP, evB, intsOf, fillC, Value.cells, pt, Value.oneCell', reduceIte, reduceCtorEq, Nat.reduceEqDiff, Nat.reduceAdd, Nat.reduceMul, Nat.reduceLT, Nat.reduceBEq, Nat.reduceLeDiff, Nat.reduceSub] -- r3
  refine ITri.ret ?_
  exact end_mk (k := 3) (n := n) (mk := fun s => s) ⟨fun _ _ _ => rfl, fun _ _ _ h => h⟩ (by decide) (rows_no (f := eN) _) rfl (resF_tmp rfl resF_nil) rfl
theorem clone_f {k n c sz : Nat} {op : Bool} {xs : List Int} {h : AH} (hn : xs.length = n) (h0 : n ≠ 0) (hb : n ≤ 1000000) (hs : h.sees 0 = true) (hg : h.get k = some (.cells ⟨rows eN xs, sz, op⟩)) : Fc Tryd.prog 100 [.slice (some ⟨k, 0, none⟩) n c] h (sO h.next n) (h.news [.cells ⟨rows eN xs, 1, true⟩]) :=
  Fc.lift1o (os := [(n, rows eN xs, 1)]) (mk := fun ss => ss ++ []) (mkv := fun ss => ss.headD undef) (clone_c n c xs hn h0 hb) (MkL.app rfl) MkV.one (rows_no (f := eN) _) (fun o h => by simp at h; subst h; exact rows_no (f := eN) _) hs hg
/-- The greater ones of two rows, so many. -/
def mxF (xs ys : List Int) : Nat → List Int
  | 0 => []
  | k + 1 => mxF xs ys k ++ [max (nth xs k) (nth ys k)]
theorem mx_len {xs ys : List Int} : ∀ k, (mxF xs ys k).length = k
  | 0 => rfl
  | k + 1 => by simp [mxF, mx_len k]
theorem mx_at {xs ys : List Int} {i : Nat} : ∀ {k : Nat}, i < k → nth (mxF xs ys k) i = max (nth xs i) (nth ys i)
  | k + 1, hi => by
    rw [mxF, nth_app, mx_len]
    by_cases h : i < k
    · rw [if_pos h, mx_at h]
    · obtain rfl : i = k := by omega
      rw [if_neg h, Nat.sub_self]; rfl
/-- What the worst of two maps is. -/
def wsOK (W H : Int) (xs : List Int) (W' H' : Int) (ys : List Int) : Bool := mOK W H xs && mOK W' H' ys && decide (W = W') && decide (H = H')
def worR (W H : Int) (xs : List Int) (W' H' : Int) (ys : List Int) : List Int × Int × Int × Int :=
  if wsOK W H xs W' H' ys = true then (mxF xs ys xs.length, W, H, 0) else ([], 0, 0, 2)
/-- The first of them written over by the greater ones. -/
def mxS (xs ys : List Int) (k : Nat) : List Int := mxF xs ys k ++ xs.drop k
theorem mxS_len {xs ys : List Int} {k : Nat} (h : k ≤ xs.length) : (mxS xs ys k).length = xs.length := by
  unfold mxS
  rw [List.length_append, mx_len, List.length_drop]
  omega
theorem mxS_at {xs ys : List Int} {k : Nat} (h : k < xs.length) : nth (mxS xs ys k) k = nth xs k := by
  unfold mxS
  rw [nth_app, mx_len, if_neg (Nat.lt_irrefl _), Nat.sub_self]
  unfold nth
  rw [List.getD_eq_getElem?_getD, List.getD_eq_getElem?_getD, List.getElem?_drop]
  rfl
theorem mxS_set {xs ys : List Int} {k : Nat} (h : k < xs.length) : (mxS xs ys k).set k (max (nth xs k) (nth ys k)) = mxS xs ys (k + 1) := by
  unfold mxS
  rw [List.set_append_right _ _ (by rw [mx_len]; exact Nat.le_refl _), mx_len, Nat.sub_self, List.drop_eq_getElem_cons h, List.set_cons_zero, mxF, List.append_assoc]
  rfl
abbrev m2 (xs ys : List Int) : List (Option AObj) := [none, some (.cells ⟨rows eN xs, 0, false⟩), some (.cells ⟨rows eN ys, 0, false⟩)]
abbrev s2 (n c : Nat) : Value := .slice (some ⟨2, 0, none⟩) n c
theorem worst_bad (n c m d : Nat) (W H W' H' : Int) (xs ys : List Int) (hn : xs.length = n) (hm : ys.length = m) (hb : n ≤ 1000000) (hb2 : m ≤ 1000000) (h : wsOK W H xs W' H' ys = false) :
    Fc Tryd.prog 57 [mV 1 n c W H, mV 2 m d W' H'] (Hp 3 (m2 xs ys)) (tuV 3 ([], 0, 0, 2)) ((Hp 3 (m2 xs ys)).news [.cells ⟨rows eN [], 1, true⟩]) := by
  refine Fc.introR fn57 (by simp) rfl rfl ?_; simp only [argF]
  refine ITri.seq ?_
  refine ITri.reg pok ?_; simp -implicitDefEqProofs (disch := first | decide | exact of_eq_true (eq_true rfl) | omega | assumption) only [ ↓vcD, vcE, ↓vcG, vcF, evs, evP, evB, intsOf, fillC, Value.cells, pt, Value.oneCell', reduceIte, reduceCtorEq, Nat.reduceEqDiff, Nat.reduceAdd, Nat.reduceMul, Nat.reduceLT, Nat.reduceBEq, Nat.reduceLeDiff, Nat.reduceSub] -- r0 log.go:294
  refine ITri.seq ?_
  refine ITri.seq ?_
  refine ITri.one [(2, .pointer (some ⟨3, 0, none⟩)), (3, .pointer (some ⟨4, 0, none⟩)), (4, .pointer (some ⟨5, 0, none⟩)), (30, .bool true)] ?_ ?_
  · refine ITri.reg pok ?_; simp -implicitDefEqProofs (disch := first | decide | exact of_eq_true (eq_true rfl) | omega | assumption) only [ ↓vcD, vcE, ↓vcG, vcF, evs, evP, evB, intsOf, fillC, Value.cells, pt, Value.oneCell', reduceIte, reduceCtorEq, Nat.reduceEqDiff, Nat.reduceAdd, Nat.reduceMul, Nat.reduceLT, Nat.reduceBEq, Nat.reduceLeDiff, Nat.reduceSub] -- r1
    refine ⟨_, _, check_f hn hb (sees0 rfl (of_decide_eq_true rfl)) (get_hq rfl rfl), ?_⟩
    cases h1 : mOK W H xs with
    | false =>
      rw [show mE W H xs = 2 by unfold mE; rw [h1]; rfl]
      simp -implicitDefEqProofs (disch := first | decide | exact of_eq_true (eq_true rfl) | omega | assumption) only [ne_eq, d20, decide_true, not_false_eq_true,  ↓vcD, vcE, ↓vcG, vcF, evs, evP, evB, intsOf, fillC, Value.cells, pt, Value.oneCell', reduceIte, reduceCtorEq, Nat.reduceEqDiff, Nat.reduceAdd, Nat.reduceMul, Nat.reduceLT, Nat.reduceBEq, Nat.reduceLeDiff, Nat.reduceSub]
    | true =>
      rw [show mE W H xs = 0 by unfold mE; rw [h1]; rfl]
      simp -implicitDefEqProofs (disch := first | decide | exact of_eq_true (eq_true rfl) | omega | assumption) only [ne_eq, decide_true, decide_false, not_true_eq_false,  ↓vcD, vcE, ↓vcG, vcF, evs, evP, evB, intsOf, fillC, Value.cells, pt, Value.oneCell', reduceIte, reduceCtorEq, Nat.reduceEqDiff, Nat.reduceAdd, Nat.reduceMul, Nat.reduceLT, Nat.reduceBEq, Nat.reduceLeDiff, Nat.reduceSub]
      refine ⟨_, _, check_f hm hb2 (sees0 rfl (of_decide_eq_true rfl)) (get_hq rfl rfl), ?_⟩
      cases h2 : mOK W' H' ys with
      | false =>
        rw [show mE W' H' ys = 2 by unfold mE; rw [h2]; rfl]
        simp -implicitDefEqProofs (disch := first | decide | exact of_eq_true (eq_true rfl) | omega | assumption) only [ne_eq, d20, decide_true, not_false_eq_true,  ↓vcD, vcE, ↓vcG, vcF, evs, evP, evB, intsOf, fillC, Value.cells, pt, Value.oneCell', reduceIte, reduceCtorEq, Nat.reduceEqDiff, Nat.reduceAdd, Nat.reduceMul, Nat.reduceLT, Nat.reduceBEq, Nat.reduceLeDiff, Nat.reduceSub]
      | true =>
        rw [show mE W' H' ys = 0 by unfold mE; rw [h2]; rfl]
        by_cases h3 : W = W'
        · by_cases h4 : H = H'
          · exfalso
            unfold wsOK at h
            rw [h1, h2, decide_eq_true h3, decide_eq_true h4] at h
            cases h
          · simp -implicitDefEqProofs (disch := first | decide | exact of_eq_true (eq_true rfl) | omega | assumption) only [h3, h4, ne_eq, decide_true, decide_false, not_false_eq_true, not_true_eq_false,  ↓vcD, vcE, ↓vcG, vcF, evs, evP, evB, intsOf, fillC, Value.cells, pt, Value.oneCell', reduceIte, reduceCtorEq, Nat.reduceEqDiff, Nat.reduceAdd, Nat.reduceMul, Nat.reduceLT, Nat.reduceBEq, Nat.reduceLeDiff, Nat.reduceSub]
        · simp -implicitDefEqProofs (disch := first | decide | exact of_eq_true (eq_true rfl) | omega | assumption) only [h3, ne_eq, decide_true, decide_false, not_false_eq_true, not_true_eq_false,  ↓vcD, vcE, ↓vcG, vcF, evs, evP, evB, intsOf, fillC, Value.cells, pt, Value.oneCell', reduceIte, reduceCtorEq, Nat.reduceEqDiff, Nat.reduceAdd, Nat.reduceMul, Nat.reduceLT, Nat.reduceBEq, Nat.reduceLeDiff, Nat.reduceSub]
  · refine ITri.cond (v := true) rfl (fun _ => ?_) (fun h => by cases h)
    refine ITri.seq ?_
    refine ITri.reg pok ?_; simp -implicitDefEqProofs (disch := first | decide | exact of_eq_true (eq_true rfl) | omega | assumption) only [ ↓vcD, vcE, ↓vcG, vcF, evs, evP, evB, intsOf, fillC, Value.cells, pt, Value.oneCell', reduceIte, reduceCtorEq, Nat.reduceEqDiff, Nat.reduceAdd, Nat.reduceMul, Nat.reduceLT, Nat.reduceBEq, Nat.reduceLeDiff, Nat.reduceSub] -- r2
    refine ITri.ret ?_
    exact end_nil (mk := fun s => .tuple #[.agg #[.int .i64 0, .int .i64 0, s], .int .i64 2]) (mvT 0 0 2) (resF_agg 3 rfl (by kernel_rfl) (by simp -implicitDefEqProofs (disch := first | decide | exact of_eq_true (eq_true rfl) | omega | assumption) only [↓vcD, vcE, ↓vcG, vcF, evs, evP, evB, intsOf, fillC, Value.cells, pt, Value.oneCell', reduceIte, reduceCtorEq, Nat.reduceEqDiff, Nat.reduceAdd, Nat.reduceMul, Nat.reduceLT, Nat.reduceBEq, Nat.reduceLeDiff, Nat.reduceSub]) (resF_tmp rfl resF_nil)) rfl
theorem ws_parts {W H W' H' : Int} {xs ys : List Int} (h : wsOK W H xs W' H' ys = true) : mOK W H xs = true ∧ mOK W' H' ys = true ∧ W = W' ∧ H = H' := by
  unfold wsOK at h
  simp only [Bool.and_eq_true, decide_eq_true_eq] at h
  exact ⟨h.1.1.1, h.1.1.2, h.1.2, h.2⟩
theorem mOK_len {W H : Int} {xs : List Int} (h : mOK W H xs = true) : (xs.length : Int) = W * H ∧ 1 ≤ xs.length ∧ xs.length ≤ 3600 := by
  obtain ⟨w, h', rfl, rfl, h1, h2, h3, h4, h5, h6⟩ := mOK_parts h
  have := Nat.mul_le_mul h1 h3
  rw [h5]
  exact ⟨by simp, by omega, h6⟩
theorem worst_ok (n c d : Nat) (W H : Int) (xs ys : List Int) (hn : xs.length = n) (hm : ys.length = n) (h1 : mOK W H xs = true) (h2 : mOK W H ys = true) :
    Fc Tryd.prog 57 [mV 1 n c W H, mV 2 n d W H] (Hp 3 (m2 xs ys)) (.tuple #[mV 3 n openB W H, .int .i64 0]) ((Hp 3 (m2 xs ys)).news [.cells ⟨rows eN (mxF xs ys n), 1, true⟩]) := by
  obtain ⟨_, b1, b2⟩ := mOK_len h1
  rw [hn] at b1 b2
  refine Fc.introR fn57 (by simp) rfl rfl ?_; simp only [argF]
  refine ITri.seq ?_
  refine ITri.reg pok ?_; simp -implicitDefEqProofs (disch := first | decide | exact of_eq_true (eq_true rfl) | omega | assumption) only [ ↓vcD, vcE, ↓vcG, vcF, evs, evP, evB, intsOf, fillC, Value.cells, pt, Value.oneCell', reduceIte, reduceCtorEq, Nat.reduceEqDiff, Nat.reduceAdd, Nat.reduceMul, Nat.reduceLT, Nat.reduceBEq, Nat.reduceLeDiff, Nat.reduceSub] -- r0 log.go:294
  refine ITri.seq ?_
  refine ITri.seq ?_
  refine ITri.reg pok ?_; simp -implicitDefEqProofs (disch := first | decide | exact of_eq_true (eq_true rfl) | omega | assumption) only [ ↓vcD, vcE, ↓vcG, vcF, evs, evP, evB, intsOf, fillC, Value.cells, pt, Value.oneCell', reduceIte, reduceCtorEq, Nat.reduceEqDiff, Nat.reduceAdd, Nat.reduceMul, Nat.reduceLT, Nat.reduceBEq, Nat.reduceLeDiff, Nat.reduceSub] -- r1
  refine ⟨_, _, check_f hn (by omega) (sees0 rfl (of_decide_eq_true rfl)) (get_hq rfl rfl), ?_⟩
  rw [show mE W H xs = 0 by unfold mE; rw [h1]; rfl]
  simp -implicitDefEqProofs (disch := first | decide | exact of_eq_true (eq_true rfl) | omega | assumption) only [ne_eq, decide_true, decide_false, not_true_eq_false,  ↓vcD, vcE, ↓vcG, vcF, evs, evP, evB, intsOf, fillC, Value.cells, pt, Value.oneCell', reduceIte, reduceCtorEq, Nat.reduceEqDiff, Nat.reduceAdd, Nat.reduceMul, Nat.reduceLT, Nat.reduceBEq, Nat.reduceLeDiff, Nat.reduceSub]
  refine ⟨_, _, check_f hm (by omega) (sees0 rfl (of_decide_eq_true rfl)) (get_hq rfl rfl), ?_⟩
  rw [show mE W H ys = 0 by unfold mE; rw [h2]; rfl]
  simp -implicitDefEqProofs (disch := first | decide | exact of_eq_true (eq_true rfl) | omega | assumption) only [ne_eq, decide_true, decide_false, not_true_eq_false,  ↓vcD, vcE, ↓vcG, vcF, evs, evP, evB, intsOf, fillC, Value.cells, pt, Value.oneCell', reduceIte, reduceCtorEq, Nat.reduceEqDiff, Nat.reduceAdd, Nat.reduceMul, Nat.reduceLT, Nat.reduceBEq, Nat.reduceLeDiff, Nat.reduceSub]
  refine ITri.cond (v := false) rfl (fun h => by cases h) (fun _ => ?_); refine ITri.skip ?_; simp only [SeqQ_normal, BlkQ_normal]
  refine ITri.seq ?_
  refine ITri.draw pok ?_; simp -implicitDefEqProofs (disch := first | decide | exact of_eq_true (eq_true rfl) | omega | assumption) only [ ↓vcD, vcE, ↓vcG, vcF, evs, evP, evB, intsOf, fillC, Value.cells, pt, Value.oneCell', reduceIte, reduceCtorEq, Nat.reduceEqDiff, Nat.reduceAdd, Nat.reduceMul, Nat.reduceLT, Nat.reduceBEq, Nat.reduceLeDiff, Nat.reduceSub] -- r3 log.go:298 CALLS .call F100 [%37]
  refine ⟨_, _, clone_f hn (by omega) (by omega) (sees0 rfl (of_decide_eq_true rfl)) (get_hq rfl rfl), ?_⟩
  simp -implicitDefEqProofs (disch := first | decide | exact of_eq_true (eq_true rfl) | omega | assumption) only [news_c, news_n,  ↓vcD, vcE, ↓vcG, vcF, evs, evP, evB, intsOf, fillC, Value.cells, pt, Value.oneCell', reduceIte, reduceCtorEq, Nat.reduceEqDiff, Nat.reduceAdd, Nat.reduceMul, Nat.reduceLT, Nat.reduceBEq, Nat.reduceLeDiff, Nat.reduceSub]
  refine ITri.seq ?_
  refine ITri.seq ?_
  refine ITri.reg pok ?_; simp -implicitDefEqProofs (disch := first | decide | exact of_eq_true (eq_true rfl) | omega | assumption) only [ ↓vcD, vcE, ↓vcG, vcF, evs, evP, evB, intsOf, fillC, Value.cells, pt, Value.oneCell', reduceIte, reduceCtorEq, Nat.reduceEqDiff, Nat.reduceAdd, Nat.reduceMul, Nat.reduceLT, Nat.reduceBEq, Nat.reduceLeDiff, Nat.reduceSub] -- r4 log.go:299
  have z0 : rows eN xs = rows eN (mxS xs ys 0) := rfl
  refine ITri.block ?_ -- 0
  refine ITri.loop (fun k : Nat => [(4, .pointer (some ⟨5, 0, none⟩)), (6, .pointer (some ⟨7, 0, none⟩)), (41, s2 n d), (42, .int .i64 n), (43, .int .i64 k)]) (fun _ => []) (fun k => Hp 3 (m2 xs ys ++ [boxM W H (s1 n c), boxM W H (s2 n d), resB, rowB (mxS xs ys k), boxM W H (sO 6 n)])) (fun k => k ≤ n) (fun k => n - k) 0 (by omega) (Wk.sub ⟨rfl, rfl, rfl, rfl, rfl, trivial⟩) fun k hk => ?_
  refine ITri.seq ?_
  refine ITri.reg pok ?_; simp -implicitDefEqProofs (disch := first | decide | exact of_eq_true (eq_true rfl) | omega | assumption) only [ ↓vcD, vcE, ↓vcG, vcF, evs, evP, evB, intsOf, fillC, Value.cells, pt, Value.oneCell', reduceIte, reduceCtorEq, Nat.reduceEqDiff, Nat.reduceAdd, Nat.reduceMul, Nat.reduceLT, Nat.reduceBEq, Nat.reduceLeDiff, Nat.reduceSub] -- r5 log.go:299
  refine ITri.seq ?_
  refine ITri.condD (by rfl) (fun h3 => ?_) (fun h3 => ?_) -- %44
  · have gy := getN (xs := ys) (i := k) (by omega)
    have hl := mxS_len (xs := xs) (ys := ys) (k := k) (by omega)
    have gx := getN (xs := mxS xs ys k) (i := k) (by omega)
    rw [mxS_at (by omega)] at gx
    have hw : writeAt (rows eN (mxS xs ys k)) k [Value.int .i64 (max (nth xs k) (nth ys k))] = rows eN (mxS xs ys (k + 1)) := by
      have := rows_write (f := eN) (c := 1) (xs := mxS xs ys k) (i := k) (max (nth xs k) (nth ys k)) (by omega)
      rwa [Nat.mul_one, mxS_set (by omega)] at this
    rw [hn] at hl
    have hk1 : ((k : Int) + 1) = ((k + 1 : Nat) : Int) := by omega
    refine ITri.skip ?_; simp only [SeqQ_normal, BlkQ_normal]
    refine ITri.seq ?_
    refine ITri.block ?_ -- 1
    refine ITri.seq ?_
    refine ITri.reg pok ?_; simp -implicitDefEqProofs (disch := first | decide | exact of_eq_true (eq_true rfl) | omega | assumption) only [gy,  ↓vcD, vcE, ↓vcG, vcF, evs, evP, evB, intsOf, fillC, Value.cells, pt, Value.oneCell', reduceIte, reduceCtorEq, Nat.reduceEqDiff, Nat.reduceAdd, Nat.reduceMul, Nat.reduceLT, Nat.reduceBEq, Nat.reduceLeDiff, Nat.reduceSub] -- r6 log.go:299
    refine ITri.draw pok ?_; simp -implicitDefEqProofs (disch := first | decide | exact of_eq_true (eq_true rfl) | omega | assumption) only [gx, hl, hw,  ↓vcD, vcE, ↓vcG, vcF, evs, evP, evB, intsOf, fillC, Value.cells, pt, Value.oneCell', reduceIte, reduceCtorEq, Nat.reduceEqDiff, Nat.reduceAdd, Nat.reduceMul, Nat.reduceLT, Nat.reduceBEq, Nat.reduceLeDiff, Nat.reduceSub] -- r7 log.go:300
    refine ITri.reg pok ?_; simp -implicitDefEqProofs (disch := first | decide | exact of_eq_true (eq_true rfl) | omega | assumption) only [hk1,  ↓vcD, vcE, ↓vcG, vcF, evs, evP, evB, intsOf, fillC, Value.cells, pt, Value.oneCell', reduceIte, reduceCtorEq, Nat.reduceEqDiff, Nat.reduceAdd, Nat.reduceMul, Nat.reduceLT, Nat.reduceBEq, Nat.reduceLeDiff, Nat.reduceSub] -- r8 log.go:299
    exact LoopQ.next (k + 1) (by omega) (by omega) (Wk.sub ⟨rfl, rfl, rfl, rfl, rfl, trivial⟩)
  refine ITri.exit ?_; try simp -implicitDefEqProofs (disch := first | decide | exact of_eq_true (eq_true rfl) | omega | assumption) only [ ↓vcD, vcE, ↓vcG, vcF, evs, evP, evB, intsOf, fillC, Value.cells, pt, Value.oneCell', reduceIte, reduceCtorEq, Nat.reduceEqDiff, Nat.reduceAdd, Nat.reduceMul, Nat.reduceLT, Nat.reduceBEq, Nat.reduceLeDiff, Nat.reduceSub]
  obtain rfl : n = k := by omega
  refine ITri.seq ?_
  refine ITri.reg pok ?_; simp -implicitDefEqProofs (disch := first | decide | exact of_eq_true (eq_true rfl) | omega | assumption) only [ ↓vcD, vcE, ↓vcG, vcF, evs, evP, evB, intsOf, fillC, Value.cells, pt, Value.oneCell', reduceIte, reduceCtorEq, Nat.reduceEqDiff, Nat.reduceAdd, Nat.reduceMul, Nat.reduceLT, Nat.reduceBEq, Nat.reduceLeDiff, Nat.reduceSub] -- r9 log.go:302
  refine ITri.ret ?_
  have hm' : mxS xs ys n = mxF xs ys n := by unfold mxS; rw [← hn, List.drop_length, List.append_nil]
  rw [hm']
  exact end_mk (k := 6) (n := n) (mk := fun s => .tuple #[.agg #[.int .i64 W, .int .i64 H, s], .int .i64 0]) (mvT _ _ _) (by decide) (rows_no (f := eN) _) rfl (resF_agg 3 rfl (by kernel_rfl) (by simp -implicitDefEqProofs (disch := first | decide | exact of_eq_true (eq_true rfl) | omega | assumption) only [↓vcD, vcE, ↓vcG, vcF, evs, evP, evB, intsOf, fillC, Value.cells, pt, Value.oneCell', reduceIte, reduceCtorEq, Nat.reduceEqDiff, Nat.reduceAdd, Nat.reduceMul, Nat.reduceLT, Nat.reduceBEq, Nat.reduceLeDiff, Nat.reduceSub]) (resF_tmp rfl resF_nil)) rfl
end Go.Proofs.YtgjokhodccacoaaDoor
