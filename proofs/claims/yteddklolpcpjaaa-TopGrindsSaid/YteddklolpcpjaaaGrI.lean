/-
  Chapter 4 at the top: runs.
-/
import Derived.Test.YteddklolpcpjaaaGrH
set_option linter.unusedSimpArgs false
set_option linter.unusedVariables false
namespace Go.Proofs.Yteddklolpcpjaaa
open Go.RowKit Go.Vm
set_option maxRecDepth 1000000
/-- The runs up to a time, and whether the last one is open. -/
def rnF (acc : Nat → Bool) : Nat → List (Int × Int) × Bool
  | 0 => ([], false)
  | t + 1 => if acc t then (if (rnF acc t).2 then ((rnF acc t).1.set ((rnF acc t).1.length - 1) ((nth (rnF acc t).1 ((rnF acc t).1.length - 1)).1, (t : Int)), true) else ((rnF acc t).1 ++ [((t : Int), (t : Int))], true)) else ((rnF acc t).1, false)
structure RnOK (acc : Nat → Bool) (t : Nat) (s : List (Int × Int) × Bool) : Prop where
  le : s.1.length ≤ t
  all : ∀ i, i < s.1.length → 0 ≤ (nth s.1 i).1 ∧ (nth s.1 i).1 ≤ (nth s.1 i).2 ∧ (nth s.1 i).2 < t ∧ ∀ x : Nat, (nth s.1 i).1 ≤ x → (x : Int) ≤ (nth s.1 i).2 → acc x = true
  op : s.2 = true → 0 < s.1.length ∧ (nth s.1 (s.1.length - 1)).2 + 1 = t
theorem nth_app1 {xs : List (Int × Int)} {x : Int × Int} {i : Nat} (h : i < xs.length + 1) : nth (xs ++ [x]) i = if i < xs.length then nth xs i else x := by
  unfold nth
  split
  · rename_i c; rw [List.getD_eq_getElem?_getD, List.getElem?_append_left c, ← List.getD_eq_getElem?_getD]
  · rename_i c
    have : i = xs.length := by omega
    subst this
    rw [List.getD_eq_getElem?_getD, List.getElem?_append_right (Nat.le_refl _), Nat.sub_self]; rfl
theorem rn_ok (acc : Nat → Bool) : ∀ t, RnOK acc t (rnF acc t)
  | 0 => ⟨Nat.le_refl 0, fun i h => absurd h (Nat.not_lt_zero _), fun h => by cases h⟩
  | t + 1 => by
    have ih := rn_ok acc t
    unfold rnF
    generalize rnF acc t = s at *
    obtain ⟨L, o⟩ := s
    obtain ⟨h1, h2, h3⟩ := ih
    simp only at h1 h2 h3 ⊢
    cases ha : acc t with
    | false =>
      simp only [Bool.false_eq_true, if_false]
      refine ⟨Nat.le_succ_of_le h1, fun i hi => ?_, fun h => by cases h⟩
      obtain ⟨a, b, c, d⟩ := h2 i hi
      exact ⟨a, b, by simp only; omega, d⟩
    | true =>
      simp only [if_true]
      cases o with
      | true =>
        obtain ⟨h4, h5⟩ := h3 rfl
        simp only [if_true]
        obtain ⟨p, q, r, d⟩ := h2 (L.length - 1) (by omega)
        refine ⟨by rw [List.length_set]; omega, fun i hi => ?_, fun _ => ?_⟩
        · rw [List.length_set] at hi
          by_cases c : L.length - 1 = i
          · subst c
            rw [nth_set _ hi]
            refine ⟨p, by simp only; omega, by simp only; omega, fun x hx1 hx2 => ?_⟩
            by_cases e : x = t
            · rw [e]; exact ha
            · simp only at hx2; exact d x hx1 (by omega)
          · rw [nth_set_ne _ c]
            obtain ⟨a, b, c', d'⟩ := h2 i hi
            exact ⟨a, b, by omega, d'⟩
        · rw [List.length_set, nth_set _ (by omega)]
          exact ⟨by omega, by simp only; omega⟩
      | false =>
        simp only [Bool.false_eq_true, if_false]
        refine ⟨by rw [List.length_append]; simp only [List.length_cons, List.length_nil]; omega, fun i hi => ?_, fun _ => ?_⟩
        · rw [List.length_append] at hi
          rw [nth_app1 hi]
          split
          · rename_i c
            obtain ⟨a, b, c', d'⟩ := h2 i c
            exact ⟨a, b, by omega, d'⟩
          · refine ⟨by simp only; omega, Int.le_refl _, by simp only; omega, fun x hx1 hx2 => ?_⟩
            simp only at hx1 hx2
            have : x = t := by omega
            rw [this]; exact ha
        · rw [List.length_append]
          simp only [List.length_cons, List.length_nil]
          rw [nth_app1 (by omega), if_neg (by omega)]
          exact ⟨by omega, by simp only; omega⟩
/- boule/pull.runs · slots 38 · names 0:end 1:is 2:end 3:is 5:l 6:open 7:t 8:now · results [4] -/
def ir21_r0 : IC := .reg [⟨some 4, none, false, .mv (.k (.slice none 0 0))⟩] (some [0, 1])
def ir21_r1 : IC := .reg [⟨some 5, none, false, .mv (.k (.slice none 0 0))⟩] (some [0, 1, 5])
def ir21_r2 : IC := .reg [⟨some 6, none, false, .mv (.k (.bool false))⟩] (some [0, 1, 5, 6])
def ir21_r3 : IC := .reg [⟨some 9, none, false, .mv (.t 0)⟩,
  ⟨some 10, none, false, .mv (.k (.int .i64 0))⟩] (some [1, 5, 6, 9, 10])
def ir21_r4 : IC := .reg [⟨some 11, none, false, .cmp .lss (.t 10) (.t 9)⟩] (some [1, 5, 6, 9, 10, 11])
def ir21_1 : IC := .cond (.t 11) .skip (.exit 0)
def ir21_r5 : IC := .reg [⟨some 12, none, false, .mv (.t 10)⟩,
  ⟨some 7, none, false, .mv (.t 12)⟩] (some [1, 5, 6, 7, 9, 10])
def ir21_r6 : IC := .reg [⟨some 13, none, false, .mv (.t 1)⟩,
  ⟨some 14, none, false, .mv (.t 7)⟩,
  ⟨some 15, none, false, .call (.t 13) [(.t 14)]⟩,
  ⟨some 8, none, false, .mv (.t 15)⟩] (some [1, 5, 6, 7, 8, 9, 10])
def ir21_r8 : IC := .reg [⟨some 17, none, false, .mv (.t 8)⟩,
  ⟨some 18, none, false, .mv (.t 17)⟩,
  ⟨some 19, some (18, true), false, .mv (.t 6)⟩,
  ⟨some 20, none, false, .pick (.t 18) (.t 19) (.k (.bool false))⟩,
  ⟨some 16, none, false, .mv (.t 20)⟩] (some [1, 5, 6, 7, 8, 9, 10, 16])
def ir21_r9 : IC := .reg [⟨some 21, none, false, .mv (.t 5)⟩,
  ⟨some 22, none, false, .mv (.t 5)⟩,
  ⟨some 23, none, false, .len (.t 22)⟩,
  ⟨some 24, none, false, .ar .sub (.t 23) (.k (.int .i64 1))⟩,
  ⟨some 25, none, false, .mv (.t 7)⟩,
  ⟨some 26, none, false, .iad 2 (.t 21) (.t 24)⟩,
  ⟨some 27, none, false, .fad 1 (.t 26)⟩,
  ⟨none, none, false, .st 1 (.t 27) (.t 25)⟩] (some [1, 5, 6, 9, 10])
def ir21_r10 : IC := .reg [⟨some 29, none, false, .mv (.t 8)⟩,
  ⟨some 28, none, false, .mv (.t 29)⟩] (some [1, 5, 7, 9, 10, 28])
def ir21_r11 : IC := .reg [⟨some 30, none, false, .mv (.t 5)⟩,
  ⟨some 31, none, false, .mv (.t 7)⟩,
  ⟨some 32, none, false, .mv (.t 7)⟩,
  ⟨some 33, none, false, .bld [(.int .i64 0), (.int .i64 0)] [(0, 1, (.t 31)), (1, 1, (.t 32))]⟩,
  ⟨some 34, none, false, .bsl 2 1 [(.int .i64 0), (.int .i64 0)] [(0, (.t 33))]⟩,
  ⟨some 35, none, false, .app 2 16 (.t 30) (.t 34)⟩,
  ⟨some 5, none, false, .mv (.t 35)⟩] (some [1, 5, 9, 10])
def ir21_r12 : IC := .reg [⟨some 6, none, false, .mv (.k (.bool true))⟩] (some [1, 5, 6, 9, 10])
def ir21_2 : IC := .seq ir21_r11 ir21_r12
def ir21_r7 : IC := .reg [⟨some 6, none, false, .mv (.k (.bool false))⟩] (some [1, 5, 6, 9, 10])
def ir21_3 : IC := .cond (.t 28) ir21_2 ir21_r7
def ir21_4 : IC := .seq ir21_r10 ir21_3
def ir21_5 : IC := .cond (.t 16) ir21_r9 ir21_4
def ir21_6 : IC := .seq ir21_r8 ir21_5
def ir21_7 : IC := .block 2 ir21_6
def ir21_8 : IC := .seq ir21_r6 ir21_7
def ir21_9 : IC := .seq ir21_r5 ir21_8
def ir21_10 : IC := .block 1 ir21_9
def ir21_r13 : IC := .reg [⟨some 36, none, false, .ar .add (.t 10) (.k (.int .i64 1))⟩,
  ⟨some 10, none, false, .mv (.t 36)⟩] (some [1, 5, 6, 9, 10])
def ir21_11 : IC := .seq ir21_10 ir21_r13
def ir21_12 : IC := .seq ir21_1 ir21_11
def ir21_13 : IC := .seq ir21_r4 ir21_12
def ir21_14 : IC := .loop ir21_13
def ir21_15 : IC := .block 0 ir21_14
def ir21_16 : IC := .seq ir21_r3 ir21_15
def ir21_r14 : IC := .reg [⟨some 37, none, false, .mv (.t 5)⟩,
  ⟨some 4, none, false, .mv (.t 37)⟩] (some [4])
def ir21_17 : IC := .seq ir21_r14 .ret
def ir21_18 : IC := .seq ir21_16 ir21_17
def ir21_19 : IC := .seq ir21_r2 ir21_18
def ir21_20 : IC := .seq ir21_r1 ir21_19
def ir21_21 : IC := .seq ir21_r0 ir21_20
def ir21 : IC := ir21_21
theorem fn21 : FnIs Try.prog 21 ir21 38 [.tmp 4] := ⟨Try.f21, Try.f21.body.getD .skip, Try.func21, by kernel_rfl, by kernel_rfl, by kernel_rfl, by kernel_rfl⟩
section
variable {ps : List Int} {B F : List Kn} {n N : Nat}
abbrev fA (k : Nat) : Value := .func (.func 22) #[pt k] #[]
abbrev rnL (ps : List Int) (B F : List Kn) (N : Nat) : List (Int × Int) := (rnF (accF ps B F) N).1
set_option maxHeartbeats 2000000 in
theorem runs_c (C : ChOK ps (N + 1) B F) : Fc Try.prog 21 [I6 N, fA 1] (Hp 4 (chM ps (N + 1) B F)) (.slice (some ⟨4, 0, none⟩) (rnL ps B F N).length openB) ((Hp 4 (chM ps (N + 1) B F)).news [.cells ⟨rows eII (rnL ps B F N), 2, true⟩]) := by
  have hl := C.pl
  have hn := C.nn
  refine Fc.introR fn21 (by simp) rfl rfl ?_; simp only [argF]
  have cmv := fun u v σ ξ => chC_mv (ps := ps) u v σ ξ
  have cok := fun u v ξ B => chC_ok (ps := ps) u v ξ B
  refine ITri.seq ?_
  refine ITri.reg pok ?_; simp -implicitDefEqProofs (disch := first | decide | exact of_eq_true (eq_true rfl) | omega | assumption) only [ ↓vcD, vcE, ↓vcG, vcF, evs, evP, evB, intsOf, fillC, Value.cells, pt, Value.oneCell', reduceIte, reduceCtorEq, Nat.reduceEqDiff, Nat.reduceAdd, Nat.reduceMul, Nat.reduceLT, Nat.reduceBEq, Nat.reduceLeDiff, Nat.reduceSub] -- r0
  refine ITri.seq ?_
  refine ITri.reg pok ?_; simp -implicitDefEqProofs (disch := first | decide | exact of_eq_true (eq_true rfl) | omega | assumption) only [ ↓vcD, vcE, ↓vcG, vcF, evs, evP, evB, intsOf, fillC, Value.cells, pt, Value.oneCell', reduceIte, reduceCtorEq, Nat.reduceEqDiff, Nat.reduceAdd, Nat.reduceMul, Nat.reduceLT, Nat.reduceBEq, Nat.reduceLeDiff, Nat.reduceSub] -- r1
  refine ITri.seq ?_
  refine ITri.reg pok ?_; simp -implicitDefEqProofs (disch := first | decide | exact of_eq_true (eq_true rfl) | omega | assumption) only [ ↓vcD, vcE, ↓vcG, vcF, evs, evP, evB, intsOf, fillC, Value.cells, pt, Value.oneCell', reduceIte, reduceCtorEq, Nat.reduceEqDiff, Nat.reduceAdd, Nat.reduceMul, Nat.reduceLT, Nat.reduceBEq, Nat.reduceLeDiff, Nat.reduceSub] -- r2
  refine ITri.seq ?_
  refine ITri.seq ?_
  refine ITri.reg pok ?_; simp -implicitDefEqProofs (disch := first | decide | exact of_eq_true (eq_true rfl) | omega | assumption) only [ ↓vcD, vcE, ↓vcG, vcF, evs, evP, evB, intsOf, fillC, Value.cells, pt, Value.oneCell', reduceIte, reduceCtorEq, Nat.reduceEqDiff, Nat.reduceAdd, Nat.reduceMul, Nat.reduceLT, Nat.reduceBEq, Nat.reduceLeDiff, Nat.reduceSub] -- r3
  refine ITri.block ?_ -- 0
  refine ITri.loop (fun k : Nat => [(1, fA 1), (5, sO 4 (rnF (accF ps B F) k).1.length), (6, .bool (rnF (accF ps B F) k).2), (9, I6 N), (10, .int .i64 k)]) (fun _ => []) (fun k => Hp 4 [none, chO ps (slN 2 (N + 1)) (slN 3 (N + 1)), some (.cells ⟨rows eK B, 0, false⟩), some (.cells ⟨rows eK F, 0, false⟩), some (.cells ⟨rows eII (rnF (accF ps B F) k).1, 2, true⟩)]) (fun k => k ≤ N) (fun k => N - k) 0 (Nat.zero_le _) (by rw [show rnF (accF ps B F) 0 = ([], false) from rfl]; exact Wk.gc [0, 1, 2, 3, 4] [(4, .nil)] (of_decide_eq_true rfl) (of_decide_eq_true rfl) rfl rfl (of_decide_eq_true rfl) rfl rfl (by repeat (first | exact xiOK_nil | refine xiOK_cons (by first | trivial | exact roomOK _ (by decide)) ?_)) rfl (by simp -implicitDefEqProofs (disch := first | decide | exact of_eq_true (eq_true rfl) | omega | assumption) only [rows_nil, cmv, cok, mvF, okFB, fA, mvA, okMA, objOK, sgL, xiL, objAt, nilO, OM, mvL, mv, mvS, okS, okP, mvL_rows, okML, okM, okML_rows, List.getElem?_cons_zero, Option.getD_some, implies_true, imp_self, ne_eq, and_self, true_or, or_true, Nat.zero_mul, Nat.sub_self, openB_self, ↓vcD, vcE, ↓vcG, vcF, evs, evP, evB, intsOf, fillC, Value.cells, pt, Value.oneCell', reduceIte, reduceCtorEq, Nat.reduceEqDiff, Nat.reduceAdd, Nat.reduceMul, Nat.reduceLT, Nat.reduceBEq, Nat.reduceLeDiff, Nat.reduceSub]) (by simp -implicitDefEqProofs (disch := first | decide | exact of_eq_true (eq_true rfl) | omega | assumption) only [rows_nil, cmv, cok, mvF, okFB, fA, mvA, okMA, valOK, sgL, xiL, mv, mvA, mvL, mvS, okS, okP, okM, okMA, okML, Option.getD_some, implies_true, and_self, true_or, or_true, Int.natCast_add, Int.cast_ofNat_Int, Nat.zero_mul, Nat.sub_self, openB_self, ↓vcD, vcE, ↓vcG, vcF, evs, evP, evB, intsOf, fillC, Value.cells, pt, Value.oneCell', reduceIte, reduceCtorEq, Nat.reduceEqDiff, Nat.reduceAdd, Nat.reduceMul, Nat.reduceLT, Nat.reduceBEq, Nat.reduceLeDiff, Nat.reduceSub]) (fun _ h => by cases h) ⟨rfl, fun _ h => by cases h⟩) fun t hk => ?_
  refine ITri.seq ?_
  refine ITri.reg pok ?_; simp -implicitDefEqProofs (disch := first | decide | exact of_eq_true (eq_true rfl) | omega | assumption) only [ ↓vcD, vcE, ↓vcG, vcF, evs, evP, evB, intsOf, fillC, Value.cells, pt, Value.oneCell', reduceIte, reduceCtorEq, Nat.reduceEqDiff, Nat.reduceAdd, Nat.reduceMul, Nat.reduceLT, Nat.reduceBEq, Nat.reduceLeDiff, Nat.reduceSub] -- r4
  refine ITri.seq ?_
  refine ITri.condD (by rfl) (fun h2 => ?_) (fun h2 => ?_) -- %11
  · have htN : t < N := by omega
    have hk1 : (t : Int) + 1 = ((t + 1 : Nat) : Int) := by omega
    have FA := fun {h : AH} {k b f zb zf : Nat} {ob of : Bool} h0 hk hb hf => acc_f (h := h) (k := k) (b := b) (f := f) (zb := zb) (zf := zf) (ob := ob) (of := of) (t := t) C (by omega) h0 hk hb hf
    have hok := rn_ok (accF ps B F) t
    have hst : rnF (accF ps B F) (t + 1) = _ := rfl
    conv at hst => rhs; unfold rnF
    generalize accF ps B F t = ac at *
    generalize rnF (accF ps B F) t = sL at *
    obtain ⟨L, o⟩ := sL
    obtain ⟨h1, h2', h3⟩ := hok
    simp only at h1 h2' h3 hst ⊢
    refine ITri.skip ?_; simp only [SeqQ_normal, BlkQ_normal]
    refine ITri.seq ?_
    refine ITri.block ?_ -- 1
    refine ITri.seq ?_
    refine ITri.reg pok ?_; simp -implicitDefEqProofs (disch := first | decide | exact of_eq_true (eq_true rfl) | omega | assumption) only [ ↓vcD, vcE, ↓vcG, vcF, evs, evP, evB, intsOf, fillC, Value.cells, pt, Value.oneCell', reduceIte, reduceCtorEq, Nat.reduceEqDiff, Nat.reduceAdd, Nat.reduceMul, Nat.reduceLT, Nat.reduceBEq, Nat.reduceLeDiff, Nat.reduceSub] -- r5
    refine ITri.seq ?_
    refine ITri.reg pok ?_; simp -implicitDefEqProofs (disch := first | decide | exact of_eq_true (eq_true rfl) | omega | assumption) only [ ↓vcD, vcE, ↓vcG, vcF, evs, evP, evB, intsOf, fillC, Value.cells, pt, Value.oneCell', reduceIte, reduceCtorEq, Nat.reduceEqDiff, Nat.reduceAdd, Nat.reduceMul, Nat.reduceLT, Nat.reduceBEq, Nat.reduceLeDiff, Nat.reduceSub] -- r6
    refine ⟨_, _, FA (sees0 rfl (of_decide_eq_true rfl)) (get_hq rfl rfl) (get_hq rfl rfl) (get_hq rfl rfl), ?_⟩
    try simp -implicitDefEqProofs (disch := first | decide | exact of_eq_true (eq_true rfl) | omega | assumption) only [ ↓vcD, vcE, ↓vcG, vcF, evs, evP, evB, intsOf, fillC, Value.cells, pt, Value.oneCell', reduceIte, reduceCtorEq, Nat.reduceEqDiff, Nat.reduceAdd, Nat.reduceMul, Nat.reduceLT, Nat.reduceBEq, Nat.reduceLeDiff, Nat.reduceSub]
    refine ITri.block ?_ -- 2
    refine ITri.seq ?_
    cases ac with
    | false =>
      simp only [Bool.false_eq_true, if_false] at hst
      refine ITri.reg pok ?_; simp -implicitDefEqProofs (disch := first | decide | exact of_eq_true (eq_true rfl) | omega | assumption) only [Bool.false_and,  ↓vcD, vcE, ↓vcG, vcF, evs, evP, evB, intsOf, fillC, Value.cells, pt, Value.oneCell', reduceIte, reduceCtorEq, Nat.reduceEqDiff, Nat.reduceAdd, Nat.reduceMul, Nat.reduceLT, Nat.reduceBEq, Nat.reduceLeDiff, Nat.reduceSub] -- r8
      refine ITri.cut (fun _ : Unit => [(1, fA 1), (5, sO 4 L.length), (6, .bool false), (9, I6 N), (10, .int .i64 t)]) (fun _ => []) (fun _ => Hp 4 [none, chO ps (slN 2 (N + 1)) (slN 3 (N + 1)), some (.cells ⟨rows eK B, 0, false⟩), some (.cells ⟨rows eK F, 0, false⟩), some (.cells ⟨rows eII L, 2, true⟩)]) (fun _ => True) ?_ (fun _ _ => ?_)
      · refine ITri.cond (v := false) rfl (fun h => by cases h) (fun _ => ?_)
        refine ITri.seq ?_
        refine ITri.reg pok ?_; simp -implicitDefEqProofs (disch := first | decide | exact of_eq_true (eq_true rfl) | omega | assumption) only [ ↓vcD, vcE, ↓vcG, vcF, evs, evP, evB, intsOf, fillC, Value.cells, pt, Value.oneCell', reduceIte, reduceCtorEq, Nat.reduceEqDiff, Nat.reduceAdd, Nat.reduceMul, Nat.reduceLT, Nat.reduceBEq, Nat.reduceLeDiff, Nat.reduceSub] -- r10
        refine ITri.cond (v := false) rfl (fun h => by cases h) (fun _ => ?_)
        refine ITri.reg pok ?_; simp -implicitDefEqProofs (disch := first | decide | exact of_eq_true (eq_true rfl) | omega | assumption) only [ ↓vcD, vcE, ↓vcG, vcF, evs, evP, evB, intsOf, fillC, Value.cells, pt, Value.oneCell', reduceIte, reduceCtorEq, Nat.reduceEqDiff, Nat.reduceAdd, Nat.reduceMul, Nat.reduceLT, Nat.reduceBEq, Nat.reduceLeDiff, Nat.reduceSub] -- r7
        exact CutQ.mk () trivial (Wk.sub ⟨rfl, rfl, rfl, rfl, rfl, trivial⟩)
      refine ITri.reg pok ?_; simp -implicitDefEqProofs (disch := first | decide | exact of_eq_true (eq_true rfl) | omega | assumption) only [hk1,  ↓vcD, vcE, ↓vcG, vcF, evs, evP, evB, intsOf, fillC, Value.cells, pt, Value.oneCell', reduceIte, reduceCtorEq, Nat.reduceEqDiff, Nat.reduceAdd, Nat.reduceMul, Nat.reduceLT, Nat.reduceBEq, Nat.reduceLeDiff, Nat.reduceSub] -- r13
      exact LoopQ.next (t + 1) (by omega) (by omega) (by rw [hst]; exact Wk.sub ⟨rfl, rfl, rfl, rfl, rfl, trivial⟩)
    | true =>
      simp only [if_true] at hst
      cases o with
      | true =>
        obtain ⟨h4, h5⟩ := h3 rfl
        simp only [if_true] at hst
        obtain ⟨m, hm⟩ : ∃ m, L.length = m + 1 := ⟨L.length - 1, by omega⟩
        rw [hm, Nat.add_sub_cancel] at hst
        have hm1 : ((m + 1 : Nat) : Int) - 1 = (m : Int) := by omega
        have hw : writeAt (rows eII L) (m * 2 + 1) [.int .i64 (t : Nat)] = rows eII (L.set m ((nth L m).1, (t : Int))) := by
          have hlm : m * 2 + 1 < (rows eII L).length := by rw [rows_len (f := eII), hm]; omega
          rw [writeAt_1 _ _ _ hlm]
          exact rows_set (f := eII) (j := 1) (get_nth (by omega)) (by decide) rfl
        have hwl : (rows eII L).length = (m + 1) * 2 := by rw [rows_len (f := eII), hm]
        refine ITri.reg pok ?_; simp -implicitDefEqProofs (disch := first | decide | exact of_eq_true (eq_true rfl) | omega | assumption) only [ ↓vcD, vcE, ↓vcG, vcF, evs, evP, evB, intsOf, fillC, Value.cells, pt, Value.oneCell', reduceIte, reduceCtorEq, Nat.reduceEqDiff, Nat.reduceAdd, Nat.reduceMul, Nat.reduceLT, Nat.reduceBEq, Nat.reduceLeDiff, Nat.reduceSub] -- r8
        refine ITri.cut (fun _ : Unit => [(1, fA 1), (5, sO 4 (m + 1)), (6, .bool true), (9, I6 N), (10, .int .i64 t)]) (fun _ => []) (fun _ => Hp 4 [none, chO ps (slN 2 (N + 1)) (slN 3 (N + 1)), some (.cells ⟨rows eK B, 0, false⟩), some (.cells ⟨rows eK F, 0, false⟩), some (.cells ⟨rows eII (L.set m ((nth L m).1, (t : Int))), 2, true⟩)]) (fun _ => True) ?_ (fun _ _ => ?_)
        · refine ITri.cond (v := true) rfl (fun _ => ?_) (fun h => by cases h)
          refine ITri.reg pok ?_; simp -implicitDefEqProofs (disch := first | decide | exact of_eq_true (eq_true rfl) | omega | assumption) only [hm, hm1, Int.toNat_natCast, hw, hwl,  ↓vcD, vcE, ↓vcG, vcF, evs, evP, evB, intsOf, fillC, Value.cells, pt, Value.oneCell', reduceIte, reduceCtorEq, Nat.reduceEqDiff, Nat.reduceAdd, Nat.reduceMul, Nat.reduceLT, Nat.reduceBEq, Nat.reduceLeDiff, Nat.reduceSub] -- r9
          exact CutQ.mk () trivial (Wk.sub ⟨rfl, rfl, rfl, rfl, rfl, trivial⟩)
        refine ITri.reg pok ?_; simp -implicitDefEqProofs (disch := first | decide | exact of_eq_true (eq_true rfl) | omega | assumption) only [hk1,  ↓vcD, vcE, ↓vcG, vcF, evs, evP, evB, intsOf, fillC, Value.cells, pt, Value.oneCell', reduceIte, reduceCtorEq, Nat.reduceEqDiff, Nat.reduceAdd, Nat.reduceMul, Nat.reduceLT, Nat.reduceBEq, Nat.reduceLeDiff, Nat.reduceSub] -- r13
        exact LoopQ.next (t + 1) (by omega) (by omega) (by rw [hst]; simp only [List.length_set, hm]; exact Wk.sub ⟨rfl, rfl, rfl, rfl, rfl, trivial⟩)
      | false =>
        simp only [Bool.false_eq_true, if_false] at hst
        have hwl : (rows eII L).length = L.length * 2 := by rw [rows_len (f := eII)]
        have hap : rows eII L ++ [.int .i64 (t : Nat), .int .i64 (t : Nat)] = rows eII (L ++ [((t : Int), (t : Int))]) := by rw [rows_append, rows_one]; rfl
        refine ITri.reg pok ?_; simp -implicitDefEqProofs (disch := first | decide | exact of_eq_true (eq_true rfl) | omega | assumption) only [ ↓vcD, vcE, ↓vcG, vcF, evs, evP, evB, intsOf, fillC, Value.cells, pt, Value.oneCell', reduceIte, reduceCtorEq, Nat.reduceEqDiff, Nat.reduceAdd, Nat.reduceMul, Nat.reduceLT, Nat.reduceBEq, Nat.reduceLeDiff, Nat.reduceSub] -- r8
        refine ITri.cut (fun _ : Unit => [(1, fA 1), (5, sO 4 (L.length + 1)), (6, .bool true), (9, I6 N), (10, .int .i64 t)]) (fun _ => []) (fun _ => Hp 4 [none, chO ps (slN 2 (N + 1)) (slN 3 (N + 1)), some (.cells ⟨rows eK B, 0, false⟩), some (.cells ⟨rows eK F, 0, false⟩), some (.cells ⟨rows eII (L ++ [((t : Int), (t : Int))]), 2, true⟩)]) (fun _ => True) ?_ (fun _ _ => ?_)
        · refine ITri.cond (v := false) rfl (fun h => by cases h) (fun _ => ?_)
          refine ITri.seq ?_
          refine ITri.reg pok ?_; simp -implicitDefEqProofs (disch := first | decide | exact of_eq_true (eq_true rfl) | omega | assumption) only [ ↓vcD, vcE, ↓vcG, vcF, evs, evP, evB, intsOf, fillC, Value.cells, pt, Value.oneCell', reduceIte, reduceCtorEq, Nat.reduceEqDiff, Nat.reduceAdd, Nat.reduceMul, Nat.reduceLT, Nat.reduceBEq, Nat.reduceLeDiff, Nat.reduceSub] -- r10
          refine ITri.cond (v := true) rfl (fun _ => ?_) (fun h => by cases h)
          refine ITri.seq ?_
          refine ITri.reg pok ?_; simp -implicitDefEqProofs (disch := first | decide | exact of_eq_true (eq_true rfl) | omega | assumption) only [hwl,  ↓vcD, vcE, ↓vcG, vcF, evs, evP, evB, intsOf, fillC, Value.cells, pt, Value.oneCell', reduceIte, reduceCtorEq, Nat.reduceEqDiff, Nat.reduceAdd, Nat.reduceMul, Nat.reduceLT, Nat.reduceBEq, Nat.reduceLeDiff, Nat.reduceSub] -- r11
          rw [hap]
          refine ITri.reg pok ?_; simp -implicitDefEqProofs (disch := first | decide | exact of_eq_true (eq_true rfl) | omega | assumption) only [ ↓vcD, vcE, ↓vcG, vcF, evs, evP, evB, intsOf, fillC, Value.cells, pt, Value.oneCell', reduceIte, reduceCtorEq, Nat.reduceEqDiff, Nat.reduceAdd, Nat.reduceMul, Nat.reduceLT, Nat.reduceBEq, Nat.reduceLeDiff, Nat.reduceSub] -- r12
          exact CutQ.mk () trivial (Wk.gc [0, 1, 2, 3, 6] [] (of_decide_eq_true rfl) (of_decide_eq_true rfl) rfl rfl (of_decide_eq_true rfl) rfl rfl (by repeat (first | exact xiOK_nil | refine xiOK_cons (by first | trivial | exact roomOK _ (by decide)) ?_)) rfl (by simp -implicitDefEqProofs (disch := first | decide | exact of_eq_true (eq_true rfl) | omega | assumption) only [cmv, cok, mvF, okFB, fA, mvA, okMA, objOK, sgL, xiL, objAt, nilO, OM, mvL, mv, mvS, okS, okP, mvL_rows, okML, okM, okML_rows, List.getElem?_cons_zero, Option.getD_some, implies_true, imp_self, ne_eq, and_self, true_or, or_true, Nat.zero_mul, Nat.sub_self, openB_self, ↓vcD, vcE, ↓vcG, vcF, evs, evP, evB, intsOf, fillC, Value.cells, pt, Value.oneCell', reduceIte, reduceCtorEq, Nat.reduceEqDiff, Nat.reduceAdd, Nat.reduceMul, Nat.reduceLT, Nat.reduceBEq, Nat.reduceLeDiff, Nat.reduceSub]) (by simp -implicitDefEqProofs (disch := first | decide | exact of_eq_true (eq_true rfl) | omega | assumption) only [cmv, cok, mvF, okFB, fA, mvA, okMA, valOK, sgL, xiL, mv, mvA, mvL, mvS, okS, okP, okM, okMA, okML, Option.getD_some, implies_true, and_self, true_or, or_true, Int.natCast_add, Int.cast_ofNat_Int, Nat.zero_mul, Nat.sub_self, openB_self, ↓vcD, vcE, ↓vcG, vcF, evs, evP, evB, intsOf, fillC, Value.cells, pt, Value.oneCell', reduceIte, reduceCtorEq, Nat.reduceEqDiff, Nat.reduceAdd, Nat.reduceMul, Nat.reduceLT, Nat.reduceBEq, Nat.reduceLeDiff, Nat.reduceSub]) (fun _ h => by cases h) ⟨rfl, fun _ h => by cases h⟩)
        refine ITri.reg pok ?_; simp -implicitDefEqProofs (disch := first | decide | exact of_eq_true (eq_true rfl) | omega | assumption) only [hk1,  ↓vcD, vcE, ↓vcG, vcF, evs, evP, evB, intsOf, fillC, Value.cells, pt, Value.oneCell', reduceIte, reduceCtorEq, Nat.reduceEqDiff, Nat.reduceAdd, Nat.reduceMul, Nat.reduceLT, Nat.reduceBEq, Nat.reduceLeDiff, Nat.reduceSub] -- r13
        exact LoopQ.next (t + 1) (by omega) (by omega) (by rw [hst]; simp only [List.length_append, List.length_cons, List.length_nil]; exact Wk.sub ⟨rfl, rfl, rfl, rfl, rfl, trivial⟩)
  refine ITri.exit ?_; try simp -implicitDefEqProofs (disch := first | decide | exact of_eq_true (eq_true rfl) | omega | assumption) only [ ↓vcD, vcE, ↓vcG, vcF, evs, evP, evB, intsOf, fillC, Value.cells, pt, Value.oneCell', reduceIte, reduceCtorEq, Nat.reduceEqDiff, Nat.reduceAdd, Nat.reduceMul, Nat.reduceLT, Nat.reduceBEq, Nat.reduceLeDiff, Nat.reduceSub] -- exit 0
  obtain rfl : t = N := by omega
  refine ITri.seq ?_
  refine ITri.reg pok ?_; simp -implicitDefEqProofs (disch := first | decide | exact of_eq_true (eq_true rfl) | omega | assumption) only [ ↓vcD, vcE, ↓vcG, vcF, evs, evP, evB, intsOf, fillC, Value.cells, pt, Value.oneCell', reduceIte, reduceCtorEq, Nat.reduceEqDiff, Nat.reduceAdd, Nat.reduceMul, Nat.reduceLT, Nat.reduceBEq, Nat.reduceLeDiff, Nat.reduceSub] -- r14
  refine ITri.ret ?_
  exact end_mk (k := 4) (mk := fun s => s) ⟨fun _ _ _ => rfl, fun _ _ _ h => h⟩ (by decide) (rows_no (f := eII) _) rfl (by rfl) rfl
theorem runs_f {h : AH} {k b f zb zf : Nat} {ob of : Bool} (C : ChOK ps (N + 1) B F) (h0 : h.sees 0 = true) (hk : h.get k = some (.cells ⟨chC ps (slN b (N + 1)) (slN f (N + 1)), 1, false⟩)) (hb : h.get b = some (.cells ⟨rows eK B, zb, ob⟩)) (hf : h.get f = some (.cells ⟨rows eK F, zf, of⟩)) :
    Fc Try.prog 21 [I6 N, fA k] h (sO h.next (rnL ps B F N).length) (h.news [.cells ⟨rows eII (rnL ps B F N), 2, true⟩]) := by
  have := runs_c C
  rw [Hq_news] at this
  refine Fc.frameL (Lc := chM ps (N + 1) B F) (os := [.cells ⟨rows eII (rnL ps B F N), 2, true⟩]) this [(0, 0, false), (k, 0, false), (b, 0, false), (f, 0, false)] rfl (frC h0 hk hb hf) ⟨trivial, ⟨trivial, ⟨⟨show 1 < 4 by decide, trivial⟩, trivial⟩, trivial⟩, trivial⟩ ⟨show 4 < 5 by decide, trivial⟩ (fun o ho => ?_) rfl rfl ?_
  · simp only [List.mem_cons, List.not_mem_nil, or_false] at ho
    subst ho
    exact okML_rows _ _
  · simp only [List.map_cons, List.map_nil, mwO, mwL_rows]
end
end Go.Proofs.Yteddklolpcpjaaa
